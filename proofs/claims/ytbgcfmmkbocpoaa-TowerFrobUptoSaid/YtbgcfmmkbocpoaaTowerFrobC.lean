/- For every input the law TowerFrob returns true, and its arguments read as they did. Condition: what it reads is of bulk at most 1048576. -/
import Derived.Test.YtbgcfmmkbocpoaaTowerFrob
import Derived.Test.YtbgcfmmkbocpoaaFrame
import Derived.JoinedCond
import Derived.Deep.CondSized
namespace Go.Proofs.Ytbgcfmmkbocpoaa.towerFrob
open Go.Abs Go.Num Go.Laws Go.ChangeShapes Go.WideShapes Go.ChangeAt Go.RowKit

set_option maxRecDepth 100000 in
theorem lifted (os : Os) (started : os.Started) (H : Type) (enc : TypeId × Value → H) (Fi : Stop.Interp) :
    ReturnsInHanded {} Try.checked os 8 .any ((Rows.OpenSpec.upto Rows.towerFrobSpec).pre6 enc Try.prog Try.f8 Rows.towerFrobUptoRow.domain false) (((Rows.OpenSpec.upto Rows.towerFrobSpec).at Fi).post enc Try.prog Try.f8 false true false false) := by
  refine returnsInHanded_of_cond_sized (C := Try.checked) (s := Rows.OpenSpec.upto Rows.towerFrobSpec) (k := Rows.uptoSmall) rfl own started (by kernel_rfl) Try.func8
    (OpenSpec.witness (enc := enc) (C := Try.checked) (s := Rows.OpenSpec.upto Rows.towerFrobSpec) (k := Rows.uptoSmall) rfl false ⟨#[], #[.slice none 0 0, .slice none 0 0], []⟩ 8 (by kernel_rfl) (by kernel_rfl) (by kernel_rfl)
      (x := ([.nil, .nil], [], [])) (by kernel_rfl) rfl (by kernel_rfl)) ?_
  intro W base args ds gs before hval0 hW hcnd hk hsz0 _
  clear hk
  have hsz : (DataW.weightsEach Try.prog (Try.f8.params.toList ++ Rows.towerFrobSpec.plain.varTypes Try.prog) (ds ++ gs)).all (· ≤ reachBytes) = true := hsz0
  clear hsz0 hcnd
  have hval : ∀ (j : Nat) t v, Try.f8.params[j]? = some t → args[j]? = some v → Value.okWide Try.prog W .any base t v := hval0
  have hW2 := hW
  obtain ⟨p, q, hA0, hV, rfl, hfz, hnd⟩ := hW
  have hA : DataW.TrodAll enc Try.prog W 0 (fun _ => true) true Try.f8.params.toList args.toList ds p := hA0
  rw [Try.params8] at hA hval hsz
  obtain ⟨v0, vs0, d0, ds0, p0, q0, hargs, rfl, rfl, h0, r0⟩ := trodAll_cons hA
  obtain ⟨v1, vs1, d1, ds1, p1, q1, rfl, rfl, rfl, h1, r1⟩ := trodAll_cons r0
  obtain ⟨rfl, rfl, rfl⟩ := trodAll_nil r1
  obtain rfl : args = #[v0, v1] := by cases args; simp_all
  obtain ⟨rfl, rfl⟩ := trodVars_none hV
  obtain ⟨a0, s0, o0, w0, n0⟩ := open_words Try.underlying22 Try.underlying5 (by kernel_rfl) (hval 0 22 v0 rfl rfl) h0 (fun el sp hd => sized_slice hsz (j := 0) (t := 22) rfl (by rw [hd]; rfl) Try.underlying22)
  rw [show Try.prog.bytesOf 5 = 1 from by kernel_rfl, Nat.mul_one] at n0
  have m0 : a0.length ≤ 140737488351232 := n0
  have b0 : InB a0 := fun x hx => wf_u8 (w0 x hx)
  obtain ⟨a1, s1, o1, w1, n1⟩ := open_words Try.underlying22 Try.underlying5 (by kernel_rfl) (hval 1 22 v1 rfl rfl) h1 (fun el sp hd => sized_slice hsz (j := 1) (t := 22) rfl (by rw [hd]; rfl) Try.underlying22)
  rw [show Try.prog.bytesOf 5 = 1 from by kernel_rfl, Nat.mul_one] at n1
  have m1 : a1.length ≤ 140737488351232 := n1
  have b1 : InB a1 := fun x hx => wf_u8 (w1 x hx)
  obtain ⟨Γ, hΓ, ds, ps, g1, g2⟩ := lawFrob b0 m0 b1 m1
  refine (law_calls hΓ mixed Try.func8 g1 g2 (rel_cons (one_words s0 o0) (rel_cons (one_words s1 o1) rel_nil))).mono fun e W2 ⟨he, hb⟩ => ⟨_, he, law_post laidOut (by kernel_rfl) rfl rfl rfl Try.underlying4 hW2 hb⟩

theorem proved : Rows.TowerFrobUptoSaid :=
  OpenClaim.holds_of_cond 8 Try.f8 rfl rfl rfl rfl rfl rfl rfl ⟨rfl, rfl, rfl, rfl, rfl⟩ rfl rfl rfl rfl rfl (by kernel_rfl) Try.func8 (by kernel_rfl)
    (of_decide_eq_true (by kernel_rfl)) (by unfold Func.isWrapper; first | (rw [if_pos (by decide +kernel)]; kernel_rfl) | (rw [if_neg (by decide +kernel)]; exact ⟨rfl, rfl⟩))
    (fun os started H enc _ Fi => lifted os started H enc Fi)
#print axioms proved
end Go.Proofs.Ytbgcfmmkbocpoaa.towerFrob

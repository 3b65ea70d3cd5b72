/- For every input the law Fp2Reckons returns true, and its arguments read as they did. No condition. -/
import Derived.Test.YtlobkhocdmepfaaFp2Reckons
import Derived.Test.YtlobkhocdmepfaaFrame
namespace Go.Proofs.Ytlobkhocdmepfaa.fp2Reckons
open Go.Abs Go.Num Go.Laws Go.ChangeShapes Go.WideShapes Go.ChangeAt Go.RowKit

set_option maxRecDepth 100000 in
theorem lifted (os : Os) (started : os.Started) (H : Type) (enc : TypeId × Value → H) :
    ReturnsInHanded {} Try.checked os 6 .any (Rows.fp2ReckonsSpec.pre6 enc Try.prog Try.f6 Rows.fp2ReckonsRow.domain false) (Rows.fp2ReckonsSpec.post enc Try.prog Try.f6 false true false false) := by
  refine returnsInHanded_of_change_sized (C := Try.checked) own started (by kernel_rfl) Try.func6
    (ChangeSpec.witness6 (enc := enc) (C := Try.checked) false ⟨#[], #[.slice none 0 0, .slice none 0 0, .slice none 0 0, .slice none 0 0], []⟩ 8 (by kernel_rfl) (by kernel_rfl) (by kernel_rfl) (by kernel_rfl)) ?_
  intro W base args ds gs before hval0 hW hcnd hsz0 _
  have hsz : (DataW.weightsEach Try.prog (Try.f6.params.toList ++ Rows.fp2ReckonsSpec.plain.varTypes Try.prog) (ds ++ gs)).all (· ≤ reachBytes) = true := hsz0
  clear hsz0 hcnd
  have hval : ∀ (j : Nat) t v, Try.f6.params[j]? = some t → args[j]? = some v → Value.okWide Try.prog W .any base t v := hval0
  have hW2 := hW
  obtain ⟨p, q, hA0, hV, rfl, hfz, hnd⟩ := hW
  have hA : DataW.TrodAll enc Try.prog W 0 (fun _ => true) true Try.f6.params.toList args.toList ds p := hA0
  rw [Try.params6] at hA hval hsz
  obtain ⟨v0, vs0, d0, ds0, p0, q0, hargs, rfl, rfl, h0, r0⟩ := trodAll_cons hA
  obtain ⟨v1, vs1, d1, ds1, p1, q1, rfl, rfl, rfl, h1, r1⟩ := trodAll_cons r0
  obtain ⟨v2, vs2, d2, ds2, p2, q2, rfl, rfl, rfl, h2, r2⟩ := trodAll_cons r1
  obtain ⟨v3, vs3, d3, ds3, p3, q3, rfl, rfl, rfl, h3, r3⟩ := trodAll_cons r2
  obtain ⟨rfl, rfl, rfl⟩ := trodAll_nil r3
  obtain rfl : args = #[v0, v1, v2, v3] := by cases args; simp_all
  obtain ⟨rfl, rfl⟩ := trodVars_none hV
  obtain ⟨a0, s0, o0, w0, n0⟩ := open_words Try.underlying22 Try.underlying5 (by kernel_rfl) (hval 0 22 v0 rfl rfl) h0 (fun el sp hd => sized_slice hsz (j := 0) (t := 22) rfl (by rw [hd]; rfl) Try.underlying22)
  rw [show Try.prog.bytesOf 5 = 1 from by kernel_rfl, Nat.mul_one] at n0
  have m0 : a0.length ≤ 140737488351232 := n0
  have b0 : InB a0 := fun x hx => wf_u8 (w0 x hx)
  obtain ⟨a1, s1, o1, w1, n1⟩ := open_words Try.underlying22 Try.underlying5 (by kernel_rfl) (hval 1 22 v1 rfl rfl) h1 (fun el sp hd => sized_slice hsz (j := 1) (t := 22) rfl (by rw [hd]; rfl) Try.underlying22)
  rw [show Try.prog.bytesOf 5 = 1 from by kernel_rfl, Nat.mul_one] at n1
  have m1 : a1.length ≤ 140737488351232 := n1
  have b1 : InB a1 := fun x hx => wf_u8 (w1 x hx)
  obtain ⟨a2, s2, o2, w2, n2⟩ := open_words Try.underlying22 Try.underlying5 (by kernel_rfl) (hval 2 22 v2 rfl rfl) h2 (fun el sp hd => sized_slice hsz (j := 2) (t := 22) rfl (by rw [hd]; rfl) Try.underlying22)
  rw [show Try.prog.bytesOf 5 = 1 from by kernel_rfl, Nat.mul_one] at n2
  have m2 : a2.length ≤ 140737488351232 := n2
  have b2 : InB a2 := fun x hx => wf_u8 (w2 x hx)
  obtain ⟨a3, s3, o3, w3, n3⟩ := open_words Try.underlying22 Try.underlying5 (by kernel_rfl) (hval 3 22 v3 rfl rfl) h3 (fun el sp hd => sized_slice hsz (j := 3) (t := 22) rfl (by rw [hd]; rfl) Try.underlying22)
  rw [show Try.prog.bytesOf 5 = 1 from by kernel_rfl, Nat.mul_one] at n3
  have m3 : a3.length ≤ 140737488351232 := n3
  have b3 : InB a3 := fun x hx => wf_u8 (w3 x hx)
  obtain ⟨Γ, hΓ, ds, ps, g1, g2⟩ := lawReckons b0 m0 b1 m1 b2 m2 b3 m3
  refine (law_calls hΓ mixed Try.func6 g1 g2 (rel_cons (one_words s0 o0) (rel_cons (one_words s1 o1) (rel_cons (one_words s2 o2) (rel_cons (one_words s3 o3) rel_nil))))).mono fun e W2 ⟨he, hb⟩ => ⟨_, he, law_post laidOut (by kernel_rfl) rfl rfl rfl Try.underlying4 hW2 hb⟩

theorem over : Rows.fp2ReckonsRow.holds Try.pinned (OpenSpec.ofChange Rows.fp2ReckonsSpec) :=
  OpenClaim.holds_of_wide 6 Try.f6 rfl rfl rfl rfl rfl rfl rfl ⟨rfl, rfl, rfl, rfl, rfl⟩ rfl rfl rfl rfl rfl (by kernel_rfl) Try.func6 (by kernel_rfl)
    (of_decide_eq_true (by kernel_rfl)) (by unfold Func.isWrapper; first | (rw [if_pos (by decide +kernel)]; kernel_rfl) | (rw [if_neg (by decide +kernel)]; exact ⟨rfl, rfl⟩))
    (fun os started H enc _ => lifted os started H enc)

theorem proved : Rows.Fp2ReckonsSaid :=
  over
#print axioms proved
end Go.Proofs.Ytlobkhocdmepfaa.fp2Reckons

/- For every input the law QueueRuns returns true, and its arguments read as they did. No condition. -/
import Derived.Test.YtglemaieddgjcaaQ13
import Derived.Test.YtglemaieddgjcaaFrame
import Derived.Test.YtglemaieddgjcaaFrO
namespace Go.Proofs.Ytglemaieddgjcaa.queueRuns
open Go.Abs Go.Num Go.Laws Go.ChangeShapes Go.WideShapes Go.ChangeAt Go.RowKit

set_option maxRecDepth 100000 in
theorem lifted (os : Os) (started : os.Started) (H : Type) (enc : TypeId × Value → H) :
    ReturnsInHanded {} Try.checked os 4 .any (Rows.queueRunsSpec.pre6 enc Try.prog Try.f4 Rows.queueRunsRow.domain false) (Rows.queueRunsSpec.post enc Try.prog Try.f4 false true false false) := by
  refine returnsInHanded_of_change_sized (C := Try.checked) own started (by kernel_rfl) Try.func4
    (ChangeSpec.witness6 (enc := enc) (C := Try.checked) false ⟨#[], #[.slice none 0 0], []⟩ 8 (by kernel_rfl) (by kernel_rfl) (by kernel_rfl) (by kernel_rfl)) ?_
  intro W base args ds gs before hval0 hW hcnd hsz0 _
  have hsz : (DataW.weightsEach Try.prog (Try.f4.params.toList ++ Rows.queueRunsSpec.plain.varTypes Try.prog) (ds ++ gs)).all (· ≤ reachBytes) = true := hsz0
  clear hsz0 hcnd
  have hval : ∀ (j : Nat) t v, Try.f4.params[j]? = some t → args[j]? = some v → Value.okWide Try.prog W .any base t v := hval0
  have hW2 := hW
  obtain ⟨p, q, hA0, hV, rfl, hfz, hnd⟩ := hW
  have hA : DataW.TrodAll enc Try.prog W 0 (fun _ => true) true Try.f4.params.toList args.toList ds p := hA0
  rw [Try.params4] at hA hval hsz
  obtain ⟨v0, vs0, d0, ds0, p0, q0, hargs, rfl, rfl, h0, r0⟩ := trodAll_cons hA
  obtain ⟨rfl, rfl, rfl⟩ := trodAll_nil r0
  obtain rfl : args = #[v0] := by cases args; simp_all
  obtain ⟨rfl, rfl⟩ := trodVars_none hV
  obtain ⟨a0, s0, m0⟩ := open_ops (hval 0 35 v0 rfl rfl) h0 (fun n hn => by simpa using List.all_eq_true.1 hsz n (DataW.weights_mem_each (j := 0) (t := 35) rfl rfl n hn))
  obtain ⟨Γ, hΓ, ds, ps, g1, g2⟩ := law_runs m0
  refine (law_calls hΓ mixed Try.func4 g1 g2 (fun _ _ _ h => by cases h) (rel_cons s0 rel_nil)).mono fun e W2 ⟨he, hb⟩ => ⟨_, he, law_post laidOut (by kernel_rfl) rfl rfl rfl Try.underlying4 hW2 hb⟩

theorem over : Rows.queueRunsRow.holds Try.pinned (OpenSpec.ofChange Rows.queueRunsSpec) :=
  OpenClaim.holds_of_wide 4 Try.f4 rfl rfl rfl rfl rfl rfl rfl ⟨rfl, rfl, rfl, rfl, rfl⟩ rfl rfl rfl rfl rfl (by kernel_rfl) Try.func4 (by kernel_rfl)
    (of_decide_eq_true (by kernel_rfl)) (by unfold Func.isWrapper; first | (rw [if_pos (by decide +kernel)]; kernel_rfl) | (rw [if_neg (by decide +kernel)]; exact ⟨rfl, rfl⟩))
    (fun os started H enc _ => lifted os started H enc)

theorem proved : Rows.QueueRunsSaid :=
  over
#print axioms proved
end Go.Proofs.Ytglemaieddgjcaa.queueRuns

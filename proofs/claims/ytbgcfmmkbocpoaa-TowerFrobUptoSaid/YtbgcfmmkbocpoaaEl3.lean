/- A field's numbers: the product of words, the whole function. -/
import Derived.Test.YtbgcfmmkbocpoaaEl2
namespace Go.Num
open Go.Abs Go.Proofs

def timesD : FnD FD
  | [.agg p, .agg q] => match numOf fld p, numOf fld q with
    | some (x, c), some (y, d) => some (.v (.agg [.tag (.num (fld.mont x (y % fld.R)))]), (0 ≤ x ∧ x < fld.m) :: (c ++ d))
    | _, _ => none
  | _ => none

/-- The number behind k rounds. -/
def tk (x y : Int) (k : Nat) : Int := fld.rnd x ((limbs 6 y).take k) 0
def snk (x y : Int) (k : Nat) : Sn FD.τ := sn (limbs 6 x) (limbs 6 (tk x y k)) (limbs 6 y) k

theorem tk_range {x : Int} (hx : 0 ≤ x ∧ x < fld.m) (y : Int) (k : Nat) : 0 ≤ tk x y k ∧ tk x y k < 2 * fld.m := by
  refine (fld.rnd_spec hx ⟨by decide, by have := fld.hm; omega⟩ ?_).1
  intro a ha
  exact limbs_inR _ _ a (List.mem_of_mem_take ha)

theorem tk_succ (x y : Int) {k : Nat} (hk : k < 6) : tk x y (k + 1) = fld.step x (tk x y k) ((limbs 6 y).getD k 0) := by
  have hl : k < (limbs 6 y).length := by rw [limbs_len]; exact hk
  unfold tk
  rw [List.take_succ_eq_append_getElem hl, fld.rnd_snoc]
  congr 1
  simp [List.getD_eq_getElem?_getD, List.getElem?_eq_getElem hl]

def exitPs (x t yl : List Int) (k : Nat) : List Prop :=
  [decide ((k : Int) < 6) = false] ++ (List.range 6).map (fun j => t.getD j 0 = t.getD j 0) ++ [yl = yl, (k : Int) = k] ++ x.map (fun a => a = a)

theorem exit_run (x0 x1 x2 x3 x4 x5 t0 t1 t2 t3 t4 t5 : Int) (yl : List Int) (k : Nat) : stepPs Try.prog FD gam1 100 (bodyOf Try.f53) 100 (sn [x0, x1, x2, x3, x4, x5] [t0, t1, t2, t3, t4, t5] yl k).st [.is false] (.exit 0) (sn [x0, x1, x2, x3, x4, x5] [t0, t1, t2, t3, t4, t5] yl k) =
    some (exitPs [x0, x1, x2, x3, x4, x5] [t0, t1, t2, t3, t4, t5] yl k) := by kernel_rfl

theorem getD_zeros (n j : Nat) : (List.replicate n (0 : Int)).getD j 0 = 0 := by
  rw [List.getD_eq_getElem?_getD, List.getElem?_replicate]
  split <;> rfl

theorem times_loop {x : Int} (hx : 0 ≤ x ∧ x < fld.m) (y : Int) : SumOK Try.prog FD (bodyOf Try.f53) (loopL FD (snk x y 0) (.exit 0) (snk x y 6)) := by
  refine sum_loop gam1_ok mixed (snk x y) 6 rfl (fun k hk => ?_) ?_
  · have hl : k < (limbs 6 y).length := by rw [limbs_len]; exact hk
    have hv : Rng ((limbs 6 y).getD k 0) := by
      have : (limbs 6 y).getD k 0 = (limbs 6 y)[k] := by simp [List.getD_eq_getElem?_getD, List.getElem?_eq_getElem hl]
      rw [this]
      exact limbs_inR _ _ _ (List.getElem_mem hl)
    refine ⟨100, 100, [.is true], roundPs (limbs 6 x) (limbs 6 (tk x y k)) (limbs 6 y) k, ?_, ?_⟩
    · show stepPs Try.prog FD gam1 100 _ 100 (sn (limbs 6 x) (limbs 6 (tk x y k)) (limbs 6 y) k).st [.is true] .normal (sn (limbs 6 x) (limbs 6 (tk x y (k + 1))) (limbs 6 y) ((k + 1 : Nat) : Int)) = _
      rw [tk_succ x y hk, ← newT_eq hx (tk_range hx y k) hv]
      exact round_run _ _ _ _ _ _ _ _ _ _ _ _ (limbs 6 y) k
    · unfold roundPs
      refine allQ_append (allQ_append (allQ_append (allQ_append (allQ_append ?_ ?_) ?_) (reflj_all _ _)) ?_) (refl_all _)
      · refine allQ_cons (decide_eq_true (by omega)) (allQ_cons (by omega) (allQ_cons (by omega) (allQ_cons (by rw [limbs_len]; omega) (allQ_cons rfl allQ_nil))))
      · exact rowPs_all hv (by rw [newM, wrap_B]; exact rng_mod _) (limbs_inR _ _) (limbs_inR _ _) rl_inR rng_zero rng_zero
      · exact allQ_cons ⟨by omega, by omega⟩ allQ_nil
      · exact allQ_cons rfl (allQ_cons rfl allQ_nil)
  · refine ⟨100, 100, [.is false], exitPs (limbs 6 x) (limbs 6 (tk x y 6)) (limbs 6 y) 6, ?_, ?_⟩
    · exact exit_run _ _ _ _ _ _ _ _ _ _ _ _ (limbs 6 y) 6
    · unfold exitPs
      refine allQ_append (allQ_append (allQ_append ?_ (reflj_all _ _)) ?_) (refl_all _)
      · exact allQ_cons (by decide) allQ_nil
      · exact allQ_cons rfl (allQ_cons rfl allQ_nil)

def gam2 : Gam FD := (73, fitD) :: gam1
theorem gam2_ok : GamOK Try.prog FD gam2 := gam_cons fit_ok gam1_ok

theorem times_run (x y : Int) : runF Try.prog FD gam2 100 Try.f53 [.agg (wordsP fld (limbs 6 x)), .agg (wordsP fld (limbs 6 y))] [.loop (loopL FD (snk x y 0) (.exit 0) (snk x y 6))] =
    some (.v (.agg [.tag (.num (fitN (val (limbs 6 (tk x y 6)))))]),
      [SumOK Try.prog FD (bodyOf Try.f53) (loopL FD (snk x y 0) (.exit 0) (snk x y 6))] ++ (List.range 6).map (fun j => (0 : Int) = (limbs 6 (tk x y 0)).getD j 0) ++ [limbs 6 y = limbs 6 y, (0 : Int) = (0 : Nat)] ++ (limbs 6 x).map (fun a => a = a) ++
        [InR (limbs 6 (tk x y 6)), (limbs 6 (tk x y 6)).length = 6]) := by kernel_rfl

theorem times_ok : FnOK Try.prog FD 53 timesD := by
  refine fnOK_of gam2_ok mixed Try.func53 (enters_of Try.func53 (by kernel_rfl) rfl) ?_
  intro xs r ps h hps
  unfold timesD at h
  split at h
  · rename_i p q
    split at h
    · rename_i x c y d hx hy
      simp only [Option.some.injEq, Prod.mk.injEq] at h
      obtain ⟨rfl, rfl⟩ := h
      have hxr : 0 ≤ x ∧ x < fld.m := hps _ (List.mem_cons_self ..)
      have hcd : AllQ (c ++ d) := fun p hp => hps p (List.mem_cons_of_mem _ hp)
      refine ⟨_, 100, _, _, _, fun w vs h => args2 (fun v hv => numOf_words fld hx hcd.append.1 hv) (fun v hv => numOf_words fld hy hcd.append.2 hv) h, times_run x y, ?_, ?_⟩
      · refine allQ_append (allQ_append (allQ_append (allQ_append (allQ_cons (times_loop hxr y) allQ_nil) ?_) (allQ_cons rfl (allQ_cons rfl allQ_nil))) (refl_all _)) (allQ_cons (limbs_inR _ _) (allQ_cons (limbs_len _ _) allQ_nil))
        intro p hp
        obtain ⟨j, _, rfl⟩ := List.mem_map.1 hp
        have h0 : tk x y 0 = 0 := rfl
        rw [h0, limbs_zero, getD_zeros]
      · intro E v hv
        have ht := tk_range hxr y 6
        have hm2 := fld.hm2
        have e1 : val (limbs 6 (tk x y 6)) = tk x y 6 := by
          rw [val_limbs]
          exact Int.emod_eq_of_lt ht.1 (by show tk x y 6 < B ^ fld.n; omega)
        have e2 : tk x y 6 = fld.rnd x (limbs fld.n y) 0 := by
          show fld.rnd x ((limbs 6 y).take 6) 0 = fld.rnd x (limbs 6 y) 0
          rw [List.take_of_length_le (by rw [limbs_len]; exact Nat.le_refl _)]
        rw [e1, fitN_spec ht, e2, fld.rnd_mont hxr] at hv
        exact hv
    · cases h
  · cases h

end Go.Num

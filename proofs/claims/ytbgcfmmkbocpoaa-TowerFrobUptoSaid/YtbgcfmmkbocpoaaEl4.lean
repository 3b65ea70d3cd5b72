/- A field's numbers: sums, differences and products. -/
import Derived.Test.YtbgcfmmkbocpoaaEl3
namespace Go.Num
open Go.Abs Go.Proofs

/-- Numbers of the field, one behind the other. -/
def elsOf : Nat → List (Part FD.τ) → Option (List Int)
  | _, [] => some []
  | 0, _ :: _ => none
  | f + 1, p :: ps => match p with
    | .tag (.el a) => (match elsOf f ps with
      | some l => some (a :: l)
      | none => none)
    | _ => (match takeZ .u64 6 (p :: ps) with
      | some r => (match elsOf f r with
        | some l => some (0 :: l)
        | none => none)
      | none => none)

def elsP (l : List Int) : List (Part FD.τ) := l.map fun a => .tag (.el a)

theorem elsOf_rel {E : Env} : ∀ {f : Nat} {ps : List (Part FD.τ)} {l : List Int} {cs : List Value}, elsOf f ps = some l → PartsRel FD E ps cs → PartsRel FD E (elsP l) cs
  | f, [], l, cs, h, hp => by
    have : l = [] := by cases f <;> (simp only [elsOf, Option.some.injEq] at h; exact h.symm)
    subst this
    exact hp
  | 0, _ :: _, l, cs, h, hp => by simp [elsOf] at h
  | f + 1, p :: ps, l, cs, h, hp => by
    have zcase : (match takeZ .u64 6 (p :: ps) with | some r => (match elsOf f r with | some l => some (0 :: l) | none => none) | none => none) = some l → PartsRel FD E (elsP l) cs := by
      intro h
      split at h
      · rename_i r hr
        split at h
        · rename_i l' hl
          simp only [Option.some.injEq] at h
          subst h
          obtain ⟨c2, rfl, h2⟩ := takeZ_rel hr hp
          exact ⟨_, c2, rfl, FD.zeros .u64 (.el 0) rfl, elsOf_rel hl h2⟩
        · cases h
      · cases h
    simp only [elsOf] at h
    split at h
    · rename_i a
      split at h
      · rename_i l' hl
        simp only [Option.some.injEq] at h
        subst h
        obtain ⟨c1, c2, rfl, h1, h2⟩ := hp
        exact ⟨c1, c2, rfl, h1, elsOf_rel hl h2⟩
      · cases h
    · exact zcase h

def elOf (ps : List (Part FD.τ)) : Option Int :=
  match elsOf 2 ps with
  | some [a] => some a
  | _ => none

theorem elOf_rel {E : Env} {ps : List (Part FD.τ)} {a : Int} {v : Value} (h : elOf ps = some a) (hv : A0Rel FD E (.agg ps) v) : A0Rel FD E (.agg [.tag (.el a)]) v := by
  unfold elOf at h
  split at h
  · rename_i b hb
    simp only [Option.some.injEq] at h
    subst h
    obtain ⟨cs, e, hp⟩ := hv
    exact ⟨cs, e, elsOf_rel hb hp⟩
  · cases h

def el2D (f : Int → Int → Int) : FnD FD
  | [.agg p, .agg q] => match elOf p, elOf q with
    | some a, some b => some (.v (.agg [.tag (.el (f a b))]), [])
    | _, _ => none
  | _ => none

def el1D (f : Int → Int) : FnD FD
  | [.agg p] => match elOf p with
    | some a => some (.v (.agg [.tag (.el (f a))]), [])
    | _ => none
  | _ => none

theorem el2_ok {Γ : Gam FD} (hΓ : GamOK Try.prog FD Γ) {f : FuncId} {fn : Func} {g : Int → Int → Int} (hf : Try.prog.funcs[f]? = some fn) (hc : ∀ args w, (callFunc f args).run Try.prog w = .ok (.enter f args) w)
    (h : ∀ a b : Int, ∃ fuel ds x ps, runF Try.prog FD Γ fuel fn [.agg [.tag (.el a)], .agg [.tag (.el b)]] ds = some (.v (.agg [.tag (.num x)]), ps) ∧ AllQ ps ∧ x % fld.R = fld.enc (g a b)) : FnOK Try.prog FD f (el2D g) := by
  refine fnOK_of hΓ mixed hf hc ?_
  intro xs r ps h2 hps
  unfold el2D at h2
  split at h2
  · rename_i p q
    split at h2
    · rename_i a b ha hb
      simp only [Option.some.injEq, Prod.mk.injEq] at h2
      obtain ⟨rfl, rfl⟩ := h2
      obtain ⟨fuel, ds, x, ps, h3, h4, h5⟩ := h a b
      refine ⟨_, fuel, ds, _, ps, fun w vs h => args2 (fun v hv => elOf_rel ha hv) (fun v hv => elOf_rel hb hv) h, h3, h4, fun E v hv => ?_⟩
      exact (el_num fld).2 (num_num fld (by rw [h5, fld.enc_R]) hv)
    · cases h2
  · cases h2

theorem el1_ok {Γ : Gam FD} (hΓ : GamOK Try.prog FD Γ) {f : FuncId} {fn : Func} {g : Int → Int} (hf : Try.prog.funcs[f]? = some fn) (hc : ∀ args w, (callFunc f args).run Try.prog w = .ok (.enter f args) w)
    (h : ∀ a : Int, ∃ fuel ds t ps, runF Try.prog FD Γ fuel fn [.agg [.tag (.el a)]] ds = some (.v (.agg [.tag t]), ps) ∧ AllQ ps ∧ fld.Is t (g a)) : FnOK Try.prog FD f (el1D g) := by
  refine fnOK_of hΓ mixed hf hc ?_
  intro xs r ps h2 hps
  unfold el1D at h2
  split at h2
  · rename_i p
    split at h2
    · rename_i a ha
      simp only [Option.some.injEq, Prod.mk.injEq] at h2
      obtain ⟨rfl, rfl⟩ := h2
      obtain ⟨fuel, ds, t, ps, h3, h4, h5⟩ := h a
      refine ⟨_, fuel, ds, _, ps, fun w vs h => args1 (fun v hv => elOf_rel ha hv) h, h3, h4, fun E v hv => ?_⟩
      exact is_el fld h5 hv
    · cases h2
  · cases h2

theorem enc_add (a b : Int) : (fld.enc a + fld.enc b) % fld.m = fld.enc (a + b) := by
  unfold Fld.enc
  rw [← Int.add_emod, Int.add_mul]

theorem enc_sub (a b : Int) : (fld.enc a - fld.enc b) % fld.m = fld.enc (a - b) := by
  unfold Fld.enc
  rw [← Int.sub_emod, Int.sub_mul]

theorem small_R {x : Int} (h : 0 ≤ x ∧ x < fld.m) : x % fld.R = x := Int.emod_eq_of_lt h.1 (by have := fld.R_pos; omega)

theorem add_run (a b : Int) : runF Try.prog FD gam2 100 Try.f58 [.agg [.tag (.el a)], .agg [.tag (.el b)]] [] = some (.v (.agg [.tag (.num (fitN (fld.enc a + fld.enc b)))]), []) := by kernel_rfl

theorem add_ok : FnOK Try.prog FD 58 (el2D fun a b => a + b) := by
  refine el2_ok gam2_ok Try.func58 (enters_of Try.func58 (by kernel_rfl) rfl) (fun a b => ⟨_, _, _, _, add_run a b, allQ_nil, ?_⟩)
  have h1 := fld.enc_range a
  have h2 := fld.enc_range b
  rw [fitN_spec (by omega), enc_add, fld.enc_R]

theorem sub_low (a b : Int) : runF Try.prog FD gam2 100 Try.f55 [.agg [.tag (.el a)], .agg [.tag (.el b)]] [.is true] =
    some (.v (.agg [.tag (.num (fld.enc a - fld.enc b + fld.m))]), [((if fld.enc a % fld.R < fld.enc b % fld.R then (1 : Int) else 0) != 0) = true]) := by kernel_rfl

theorem sub_high (a b : Int) : runF Try.prog FD gam2 100 Try.f55 [.agg [.tag (.el a)], .agg [.tag (.el b)]] [.is false] =
    some (.v (.agg [.tag (.num (fld.enc a - fld.enc b))]), [((if fld.enc a % fld.R < fld.enc b % fld.R then (1 : Int) else 0) != 0) = false]) := by kernel_rfl

theorem sub_ok : FnOK Try.prog FD 55 (el2D fun a b => a - b) := by
  refine el2_ok gam2_ok Try.func55 (enters_of Try.func55 (by kernel_rfl) rfl) (fun a b => ?_)
  have h1 := fld.enc_range a
  have h2 := fld.enc_range b
  by_cases hc : fld.enc a % fld.R < fld.enc b % fld.R
  · refine ⟨_, _, _, _, sub_low a b, allQ_cons (by rw [if_pos hc]; rfl) allQ_nil, ?_⟩
    rw [fld.enc_R, fld.enc_R] at hc
    rw [small_R (by omega), ← enc_sub]
    rw [← Int.emod_eq_of_lt (a := fld.enc a - fld.enc b + fld.m) (b := fld.m) (by omega) (by omega), Int.add_emod_right]
  · refine ⟨_, _, _, _, sub_high a b, allQ_cons (by rw [if_neg hc]; rfl) allQ_nil, ?_⟩
    rw [fld.enc_R, fld.enc_R] at hc
    rw [small_R (by omega), ← enc_sub, Int.emod_eq_of_lt (by omega) (by omega)]

def gam3 : Gam FD := (53, timesD) :: (58, el2D fun a b => a + b) :: (55, el2D fun a b => a - b) :: gam2
theorem gam3_ok : GamOK Try.prog FD gam3 := gam_cons times_ok (gam_cons add_ok (gam_cons sub_ok gam2_ok))

theorem mul_run (a b : Int) : runF Try.prog FD gam3 100 Try.f57 [.agg [.tag (.el a)], .agg [.tag (.el b)]] [] = some (.v (.agg [.tag (.num (fld.mont (fld.enc a) (fld.enc b % fld.R)))]), [0 ≤ fld.enc a ∧ fld.enc a < fld.m]) := by kernel_rfl

theorem mul_ok : FnOK Try.prog FD 57 (el2D fun a b => a * b) := by
  refine el2_ok gam3_ok Try.func57 (enters_of Try.func57 (by kernel_rfl) rfl) (fun a b => ⟨_, _, _, _, mul_run a b, allQ_cons (fld.enc_range a) allQ_nil, ?_⟩)
  rw [fld.enc_R, fld.mont_enc_enc, fld.enc_R]

theorem square_run (a : Int) : runF Try.prog FD gam3 100 Try.f59 [.agg [.tag (.el a)]] [] = some (.v (.agg [.tag (.num (fld.mont (fld.enc a) (fld.enc a % fld.R)))]), [0 ≤ fld.enc a ∧ fld.enc a < fld.m]) := by kernel_rfl

theorem square_ok : FnOK Try.prog FD 59 (el1D fun a => a * a) := by
  refine el1_ok gam3_ok Try.func59 (enters_of Try.func59 (by kernel_rfl) rfl) (fun a => ⟨_, _, _, _, square_run a, allQ_cons (fld.enc_range a) allQ_nil, ?_⟩)
  show fld.mont (fld.enc a) (fld.enc a % fld.R) % fld.R = _
  rw [fld.enc_R, fld.mont_enc_enc, fld.enc_R]

theorem neg_run (a : Int) : runF Try.prog FD gam3 100 Try.f29 [.agg [.tag (.el a)]] [] = some (.v (.agg [.tag (.el (0 - a))]), []) := by kernel_rfl

theorem neg_ok : FnOK Try.prog FD 29 (el1D fun a => 0 - a) := by
  refine el1_ok gam3_ok Try.func29 (enters_of Try.func29 (by kernel_rfl) rfl) (fun a => ⟨_, _, _, _, neg_run a, allQ_nil, ?_⟩)
  exact fld.enc_R _

end Go.Num

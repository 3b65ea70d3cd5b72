/- A field's numbers: the product of words. -/
import Derived.Test.YtbgcfmmkbocpoaaEl
namespace Go.Num
open Go.Abs Go.Proofs

def modulusD : FnD FD
  | [] => some (.v (.agg [.tag (.num fld.m)]), [])
  | _ => none

def oneD : FnD FD
  | [] => some (.v (.agg [.tag (.el 1)]), [])
  | _ => none

theorem ints_words {E : Env} {l : List Int} {ps : List (Part FD.τ)} {v : Value} (h : allInts .u64 ps = some l) (hv : A0Rel FD E (.agg ps) v) : A0Rel FD E (.agg (wordsP fld l)) v := by
  obtain ⟨cs, e, hp⟩ := hv
  exact ⟨cs, e, (wordsP_rel fld).2 (allInts_rel h hp)⟩

theorem modulus_ok : FnOK Try.prog FD 77 modulusD := by
  refine fnOK_of gam_nil mixed Try.func77 (enters_of Try.func77 (by kernel_rfl) rfl) ?_
  intro xs r ps h hps
  unfold modulusD at h
  split at h
  · simp only [Option.some.injEq, Prod.mk.injEq] at h
    obtain ⟨rfl, rfl⟩ := h
    refine ⟨[], 100, [], .v (.agg [.int .u64 true 13402431016077863595, .int .u64 true 2210141511517208575, .int .u64 true 7435674573564081700, .int .u64 true 7239337960414712511, .int .u64 true 5412103778470702295, .int .u64 true 1873798617647539866]), [], fun w vs h => h, by kernel_rfl, allQ_nil, ?_⟩
    intro E v hv
    exact words_num fld (l := [13402431016077863595, 2210141511517208575, 7435674573564081700, 7239337960414712511, 5412103778470702295, 1873798617647539866]) (by kernel_rfl) (ints_words (by kernel_rfl) hv)
  · cases h

theorem one_ok : FnOK Try.prog FD 74 oneD := by
  refine fnOK_of gam_nil mixed Try.func74 (enters_of Try.func74 (by kernel_rfl) rfl) ?_
  intro xs r ps h hps
  unfold oneD at h
  split at h
  · simp only [Option.some.injEq, Prod.mk.injEq] at h
    obtain ⟨rfl, rfl⟩ := h
    refine ⟨[], 100, [], .v (.agg [.int .u64 true 8505329371266088957, .int .u64 true 17002214543764226050, .int .u64 true 6865905132761471162, .int .u64 true 8632934651105793861, .int .u64 true 6631298214892334189, .int .u64 true 1582556514881692819]), [], fun w vs h => h, by kernel_rfl, allQ_nil, ?_⟩
    intro E v hv
    exact (el_num fld).2 (words_num fld (l := [8505329371266088957, 17002214543764226050, 6865905132761471162, 8632934651105793861, 6631298214892334189, 1582556514881692819]) (by kernel_rfl) (ints_words (by kernel_rfl) hv))
  · cases h

/-! fit -/

def gam1 : Gam FD := (75, minusD) :: (76, plusD) :: (77, modulusD) :: (74, oneD) :: (72, mulAddD FD) :: gam0

theorem gam1_ok : GamOK Try.prog FD gam1 := gam_cons minus_ok (gam_cons plus_ok (gam_cons modulus_ok (gam_cons one_ok (gam_cons muladd_ok gam0_ok))))

def fitN (x : Int) : Int := if x % fld.R < fld.m % fld.R then x else x - fld.m

def fitD : FnD FD
  | [.agg p] => match numOf fld p with
    | some (x, c) => some (.v (.agg [.tag (.num (fitN x))]), c)
    | _ => none
  | _ => none

theorem fit_low (x : Int) : runF Try.prog FD gam1 100 Try.f73 [.agg [.tag (.num x)]] [.is true] =
    some (.v (.agg [.tag (.num x)]), [((if x % fld.R < fld.m % fld.R then (1 : Int) else 0) != 0) = true]) := by kernel_rfl

theorem fit_high (x : Int) : runF Try.prog FD gam1 100 Try.f73 [.agg [.tag (.num x)]] [.is false] =
    some (.v (.agg [.tag (.num (x - fld.m))]), [((if x % fld.R < fld.m % fld.R then (1 : Int) else 0) != 0) = false]) := by kernel_rfl

theorem fit_ok : FnOK Try.prog FD 73 fitD := by
  refine fnOK_of gam1_ok mixed Try.func73 (enters_of Try.func73 (by kernel_rfl) rfl) ?_
  intro xs r ps h hps
  unfold fitD at h
  split at h
  · rename_i p
    split at h
    · rename_i x c hx
      simp only [Option.some.injEq, Prod.mk.injEq] at h
      obtain ⟨rfl, rfl⟩ := h
      by_cases hc : x % fld.R < fld.m % fld.R
      · refine ⟨_, 100, [.is true], _, _, fun w vs h => args1 (fun v hv => numOf_tag fld hx hps hv) h, fit_low x, ?_, ?_⟩
        · refine allQ_cons ?_ allQ_nil
          rw [if_pos hc]; rfl
        · intro E v hv
          rw [fitN, if_pos hc]
          exact hv
      · refine ⟨_, 100, [.is false], _, _, fun w vs h => args1 (fun v hv => numOf_tag fld hx hps hv) h, fit_high x, ?_, ?_⟩
        · refine allQ_cons ?_ allQ_nil
          rw [if_neg hc]; rfl
        · intro E v hv
          rw [fitN, if_neg hc]
          exact hv
    · cases h
  · cases h

theorem fitN_spec {t : Int} (h : 0 ≤ t ∧ t < 2 * fld.m) : fitN t = t % fld.m := by
  have h1 := fld.hm2
  have h2 := fld.hm
  have h3 : t % fld.R = t := Int.emod_eq_of_lt h.1 (by show t < B ^ fld.n; omega)
  have h4 : fld.m % fld.R = fld.m := Int.emod_eq_of_lt (by omega) (by show fld.m < B ^ fld.n; omega)
  unfold fitN
  rw [h3, h4]
  split
  · rename_i hc
    exact (Int.emod_eq_of_lt h.1 hc).symm
  · rename_i hc
    rw [← Int.emod_eq_of_lt (a := t - fld.m) (b := fld.m) (by omega) (by omega), Int.sub_emod_right]

/-! times -/

/-- The words behind a round, as the function reckons them. -/
def rowW (v m : Int) : List Int → List Int → List Int → Int → Int → List Int
  | x :: xs, t :: ts, r :: rs, a, c => (m * r + (x * v + t + a) % B + c) % B :: rowW v m xs ts rs ((x * v + t + a) / B) ((m * r + (x * v + t + a) % B + c) / B)
  | _, _, _, a, c => [IntKind.u64.wrap (a + c)]

def rowPs (v m : Int) : List Int → List Int → List Int → Int → Int → List Prop
  | x :: xs, t :: ts, r :: rs, a, c => Rng x :: Rng v :: Rng t :: Rng a :: Rng m :: Rng r :: Rng ((x * v + t + a) % B) :: Rng c :: rowPs v m xs ts rs ((x * v + t + a) / B) ((m * r + (x * v + t + a) % B + c) / B)
  | _, _, _, _, _ => []

def rl : List Int := [13402431016077863595, 2210141511517208575, 7435674573564081700, 7239337960414712511, 5412103778470702295, 1873798617647539866]

def newM (x t : List Int) (v : Int) : Int := IntKind.u64.wrap ((x.getD 0 0 * v + t.getD 0 0 + 0) % B * 9940570264628428797)

def newT (x t : List Int) (v : Int) : List Int :=
  match x, t, rl with
  | x0 :: xs, t0 :: ts, r0 :: rs => rowW v (newM x t v) xs ts rs ((x0 * v + t0 + 0) / B) ((newM x t v * r0 + (x0 * v + t0 + 0) % B + 0) / B)
  | _, _, _ => []

def sn (x t yl : List Int) (k : Int) : Sn FD.τ where
  slots := [(2, .v (.one (.ref 0 0))), (4, .v (.one (.ref 1 0))), (7, .v (.one (.int .u64 false (t.getD 0 0)))), (8, .v (.one (.int .u64 false (t.getD 1 0)))), (9, .v (.one (.int .u64 false (t.getD 2 0)))), (10, .v (.one (.int .u64 false (t.getD 3 0)))), (11, .v (.one (.int .u64 false (t.getD 4 0)))), (12, .v (.one (.int .u64 false (t.getD 5 0)))), (16, .v (.agg [.ints .u64 yl])), (17, .v (.one (.int .i64 false k)))]
  boxes := [(0, .fixed 32 (wordsP fld x)), (1, .fixed 32 [.int .u64 true 0, .int .u64 true 0, .int .u64 true 0, .int .u64 true 0, .int .u64 true 0, .int .u64 true 0])]
  nt := 128

def roundPs (x t yl : List Int) (k : Nat) : List Prop :=
  [decide ((k : Int) < 6) = true, 0 ≤ (k : Int), (k : Int) < (6 : Nat), (k : Int) < yl.length, (1 : Nat) = 1] ++ rowPs (yl.getD k 0) (newM x t (yl.getD k 0)) x t rl 0 0 ++ [InI64 (k + 1)] ++
    (List.range 6).map (fun j => (newT x t (yl.getD k 0)).getD j 0 = (newT x t (yl.getD k 0)).getD j 0) ++ [yl = yl, (k : Int) + 1 = (k : Int) + 1] ++ x.map (fun a => a = a)

theorem round_run (x0 x1 x2 x3 x4 x5 t0 t1 t2 t3 t4 t5 : Int) (yl : List Int) (k : Nat) : stepPs Try.prog FD gam1 100 (bodyOf Try.f53) 100 (sn [x0, x1, x2, x3, x4, x5] [t0, t1, t2, t3, t4, t5] yl k).st [.is true] .normal (sn [x0, x1, x2, x3, x4, x5] (newT [x0, x1, x2, x3, x4, x5] [t0, t1, t2, t3, t4, t5] (yl.getD k 0)) yl ((k : Int) + 1)) =
    some (roundPs [x0, x1, x2, x3, x4, x5] [t0, t1, t2, t3, t4, t5] yl k) := by kernel_rfl

theorem rowPs_all {v m : Int} (hv : Rng v) (hm : Rng m) : ∀ {xs ts rs : List Int} {a c : Int}, InR xs → InR ts → InR rs → Rng a → Rng c → AllQ (rowPs v m xs ts rs a c)
  | [], _, _, _, _, _, _, _, _, _ => by simp only [rowPs]; exact allQ_nil
  | _ :: _, [], _, _, _, _, _, _, _, _ => by simp only [rowPs]; exact allQ_nil
  | _ :: _, _ :: _, [], _, _, _, _, _, _, _ => by simp only [rowPs]; exact allQ_nil
  | x :: xs, t :: ts, r :: rs, a, c, hx, ht, hr, ha, hc => by
    simp only [rowPs]
    exact allQ_cons hx.cons.1 (allQ_cons hv (allQ_cons ht.cons.1 (allQ_cons ha (allQ_cons hm (allQ_cons hr.cons.1 (allQ_cons (rng_mod _) (allQ_cons hc
      (rowPs_all hv hm hx.cons.2 ht.cons.2 hr.cons.2 (carry_range hx.cons.1 hv ht.cons.1 ha) (carry_range hm hr.cons.1 (rng_mod _) hc)))))))))

theorem rl_inR : InR rl := by
  intro a ha
  have : ∀ a ∈ rl, Rng a := by decide
  exact this a ha

theorem rowW_eq {v m : Int} : ∀ {xs ts rs : List Int} {a c : Int}, InR (rowL v m xs ts rs a c) → rowW v m xs ts rs a c = rowL v m xs ts rs a c
  | [], _, _, a, c, h => by
    have h1 := h _ (List.mem_cons_self ..)
    simp only [rowW, rowL]
    rw [IntKind.wrap_u64]
    unfold B at h1
    congr 1
    omega
  | _ :: _, [], _, a, c, h => by
    have h1 := h _ (List.mem_cons_self ..)
    simp only [rowW, rowL]
    rw [IntKind.wrap_u64]
    unfold B at h1
    congr 1
    omega
  | _ :: _, _ :: _, [], a, c, h => by
    have h1 := h _ (List.mem_cons_self ..)
    simp only [rowW, rowL]
    rw [IntKind.wrap_u64]
    unfold B at h1
    congr 1
    omega
  | x :: xs, t :: ts, r :: rs, a, c, h => by
    simp only [rowW, rowL] at h ⊢
    rw [rowW_eq h.cons.2]

theorem wrap_B (x : Int) : IntKind.u64.wrap x = x % B := by rw [IntKind.wrap_u64]

theorem newM_eq (x t v : Int) : newM (limbs 6 x) (limbs 6 t) v = (t + v * x) % B * fld.ca % B := by
  show IntKind.u64.wrap ((x % B * v + t % B + 0) % B * 9940570264628428797) = _
  rw [wrap_B, Int.add_zero]
  have h : (x % B * v + t % B) % B = (t + v * x) % B := by
    have h1 := Int.emod_add_mul_ediv x B
    have h2 := Int.emod_add_mul_ediv t B
    refine emod_congr (- (t / B) - x / B * v) ?_
    generalize x / B = p at *
    generalize x % B = q at *
    generalize t / B = r at *
    generalize t % B = s at *
    generalize B = b at *
    grind
  rw [h]
  rfl

/-- A round comes to the words of what it should. -/
theorem newT_eq {x t v : Int} (hx : 0 ≤ x ∧ x < fld.m) (ht : 0 ≤ t ∧ t < 2 * fld.m) (hv : Rng v) : newT (limbs 6 x) (limbs 6 t) v = limbs 6 (fld.step x t v) := by
  obtain ⟨hs, he⟩ := fld.step_spec hx ht hv
  have hm2 := fld.hm2
  have hm := newM_eq x t v
  have hmr : Rng ((t + v * x) % B * fld.ca % B) := rng_mod _
  rw [← hm] at he hmr
  generalize hmm : newM (limbs 6 x) (limbs 6 t) v = mm at *
  have hxv : val (limbs 6 x) = x := by rw [val_limbs]; exact Int.emod_eq_of_lt hx.1 (by show x < B ^ fld.n; omega)
  have htv : val (limbs 6 t) = t := by rw [val_limbs]; exact Int.emod_eq_of_lt ht.1 (by show t < B ^ fld.n; omega)
  have hrv : val rl = fld.m := by kernel_rfl
  have hlx := limbs_inR 6 x
  have hlt := limbs_inR 6 t
  have hrr := rl_inR
  have hz : (mm * rl.getD 0 0 + ((limbs 6 x).getD 0 0 * v + (limbs 6 t).getD 0 0) % B) % B = 0 := by
    rw [← hmm]
    show (IntKind.u64.wrap ((x % B * v + t % B + 0) % B * 9940570264628428797) * rl.getD 0 0 + (x % B * v + t % B) % B) % B = 0
    rw [wrap_B, Int.add_zero]
    exact ca_of (m := rl.getD 0 0) (ca := 9940570264628428797) (by kernel_rfl) _
  have hlx' : limbs 6 x = x % B :: limbs 5 (x / B) := rfl
  have hlt' : limbs 6 t = t % B :: limbs 5 (t / B) := rfl
  have hrl' : rl = rl.getD 0 0 :: rl.tail := by rfl
  rw [hlx'] at hxv hlx
  rw [hlt'] at htv hlt
  rw [hrl'] at hrv hrr
  have hr := round_spec (v := v) (m := mm) hv hmr hlx hlt hrr (by rw [limbs_len, limbs_len]) (by rw [limbs_len]; rfl) hz (by
    rw [htv, hxv, hrv, ← he, limbs_len]
    exact Int.mul_lt_mul_of_pos_left (by show fld.step x t v < B ^ fld.n; omega) (by decide))
  simp only at hr
  obtain ⟨r1, r2, r3⟩ := hr
  rw [htv, hxv, hrv, ← he] at r3
  have r4 := Int.eq_of_mul_eq_mul_left (by decide) r3
  have e1 : newT (limbs 6 x) (limbs 6 t) v = rowW v mm (limbs 5 (x / B)) (limbs 5 (t / B)) rl.tail ((x % B * v + t % B + 0) / B) ((mm * rl.getD 0 0 + (x % B * v + t % B + 0) % B + 0) / B) := by
    rw [← hmm]; rfl
  rw [e1, Int.add_zero, Int.add_zero, rowW_eq r1]
  refine (limbs_of r1 (by rw [r2, limbs_len]) ?_).symm
  rw [r4]
  exact Int.emod_eq_of_lt hs.1 (by show fld.step x t v < B ^ fld.n; omega)

end Go.Num

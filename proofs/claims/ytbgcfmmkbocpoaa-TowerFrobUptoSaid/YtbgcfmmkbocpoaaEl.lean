/- A field's numbers: the functions over words. -/
import Derived.Test.YtbgcfmmkbocpoaaBits
namespace Go.Num
open Go.Abs Go.Proofs

theorem ca_of {m ca : Int} (h : (ca * m + 1) % B = 0) : ∀ t, (((t * ca) % B) * m + t) % B = 0 := by
  intro t
  have h1 := Int.emod_add_mul_ediv (t * ca) B
  have h2 := Int.emod_add_mul_ediv (ca * m + 1) B
  rw [h, Int.zero_add] at h2
  have h3 : ((t * ca) % B) * m + t = B * (t * ((ca * m + 1) / B) - (t * ca) / B * m) := by
    generalize (t * ca) / B = q at *
    generalize (t * ca) % B = s at *
    generalize (ca * m + 1) / B = u at *
    generalize B = b at *
    grind
  rw [h3, Int.mul_emod_right]

def fld : Fld where
  n := 6
  m := 4002409555221667393417789825735904156556882819939007885332058136124031650490837864442687629129015664037894272559787
  ca := 9940570264628428797
  ri := 3231460744492646417066832100176244795738767926513225105051837195607029917124509527734802654356338138714468589979680
  hn := by decide
  hm := by decide
  hm2 := by decide
  hri := by kernel_rfl
  hca := ca_of (by kernel_rfl)

abbrev FD := fld.dom

def gam0 : Gam FD := [(84, add64D FD), (85, sub64D FD), (83, mul64D FD)]

theorem gam0_ok : GamOK Try.prog FD gam0 := gam_cons (add64_ok _) (gam_cons (sub64_ok _) (gam_cons (mul64_ok _) gam_nil))

/-! muladd -/

theorem muladd_num {a b c d : Int} (ha : Rng a) (hb : Rng b) (hc : Rng c) (hd : Rng d) :
    IntKind.u64.wrap (IntKind.u64.wrap (a * b / B + (a * b % B + c + 0) / B) + ((a * b % B + c + 0) % B + d + 0) / B) = (a * b + c + d) / B ∧ ((a * b % B + c + 0) % B + d + 0) % B = (a * b + c + d) % B := by
  have h := rng_hi ha hb hc hd
  have h0 : 0 ≤ a * b := Int.mul_nonneg ha.1 hb.1
  unfold Rng B at *
  rw [IntKind.wrap_u64, IntKind.wrap_u64]
  generalize a * b = x at *
  omega

theorem muladd_run (a b c d : Int) (x y z u : Bool) : runF Try.prog FD gam0 100 Try.f72 [.one (.int .u64 x a), .one (.int .u64 y b), .one (.int .u64 z c), .one (.int .u64 u d)] [] =
    some (.tup [.one (.int .u64 false (IntKind.u64.wrap (IntKind.u64.wrap (a * b / B + (a * b % B + c + 0) / B) + ((a * b % B + c + 0) % B + d + 0) / B))), .one (.int .u64 false (((a * b % B + c + 0) % B + d + 0) % B))],
      [Rng a, Rng b, Rng (a * b % B), Rng c, Bit 0, Rng ((a * b % B + c + 0) % B), Rng d, Bit 0]) := by kernel_rfl

theorem muladd_ok : FnOK Try.prog FD 72 (mulAddD FD) := by
  refine fnOK_of gam0_ok mixed Try.func72 (enters_of Try.func72 (by kernel_rfl) rfl) ?_
  intro xs r ps h hps
  unfold mulAddD at h
  split at h
  · rename_i x a y b z c u d
    simp only [Option.some.injEq, Prod.mk.injEq] at h
    obtain ⟨rfl, rfl⟩ := h
    have ha : Rng a := hps _ (by simp)
    have hb : Rng b := hps _ (by simp)
    have hc : Rng c := hps _ (by simp)
    have hd : Rng d := hps _ (by simp)
    refine ⟨_, 100, [], _, _, fun _ _ h => h, muladd_run a b c d x y z u, ?_, ?_⟩
    · exact AllP.all ⟨ha, hb, rng_mod _, hc, bit_zero, rng_mod _, hd, bit_zero⟩
    · intro E v hv
      rw [(muladd_num ha hb hc hd).1, (muladd_num ha hb hc hd).2] at hv
      exact hv
  · cases h

/-! minus, plus -/

def subPs : List Int → List Int → Int → List Prop
  | a :: xs, b :: ys, k => Rng a :: Rng b :: Bit k :: subPs xs ys (if a < b + k then 1 else 0)
  | _, _, _ => []

theorem subPs_all : ∀ {xs ys : List Int} {k : Int}, InR xs → InR ys → Bit k → AllQ (subPs xs ys k)
  | [], _, _, _, _, _ => by simp only [subPs]; exact allQ_nil
  | _ :: _, [], _, _, _, _ => by simp only [subPs]; exact allQ_nil
  | a :: xs, b :: ys, k, ha, hb, hk => by
    simp only [subPs]
    exact allQ_cons ha.cons.1 (allQ_cons hb.cons.1 (allQ_cons hk (subPs_all ha.cons.2 hb.cons.2 (bit_ite _))))

def addPs : List Int → List Int → Int → List Prop
  | a :: xs, b :: ys, k => Rng a :: Rng b :: Bit k :: addPs xs ys ((a + b + k) / B)
  | _, _, _ => []

theorem addPs_all : ∀ {xs ys : List Int} {k : Int}, InR xs → InR ys → Bit k → AllQ (addPs xs ys k)
  | [], _, _, _, _, _ => by simp only [addPs]; exact allQ_nil
  | _ :: _, [], _, _, _, _ => by simp only [addPs]; exact allQ_nil
  | a :: xs, b :: ys, k, ha, hb, hk => by
    simp only [addPs]
    exact allQ_cons ha.cons.1 (allQ_cons hb.cons.1 (allQ_cons hk (addPs_all ha.cons.2 hb.cons.2 (bit_sum ha.cons.1 hb.cons.1 hk))))

theorem minus_run (x y : Int) : runF Try.prog FD gam0 100 Try.f75 [.agg (wordsP fld (limbs 6 x)), .agg (wordsP fld (limbs 6 y))] [] =
    some (.tup [.agg (wordsP fld (subL (limbs 6 x) (limbs 6 y) 0)), .one (.int .u64 false (subK (limbs 6 x) (limbs 6 y) 0))], subPs (limbs 6 x) (limbs 6 y) 0) := by kernel_rfl

theorem plus_run (x y : Int) : runF Try.prog FD gam0 100 Try.f76 [.agg (wordsP fld (limbs 6 x)), .agg (wordsP fld (limbs 6 y))] [] =
    some (.v (.agg (wordsP fld (addL (limbs 6 x) (limbs 6 y) 0))), addPs (limbs 6 x) (limbs 6 y) 0) := by kernel_rfl

def minusD : FnD FD
  | [.agg p, .agg q] => match numOf fld p, numOf fld q with
    | some (x, c), some (y, d) => some (.tup [.agg [.tag (.num (x - y))], .one (.int .u64 false (if x % fld.R < y % fld.R then 1 else 0))], c ++ d)
    | _, _ => none
  | _ => none

def plusD : FnD FD
  | [.agg p, .agg q] => match numOf fld p, numOf fld q with
    | some (x, c), some (y, d) => some (.v (.agg [.tag (.num (x + y))]), c ++ d)
    | _, _ => none
  | _ => none

theorem sub_limbs (n : Nat) (x y : Int) : limbs n (x - y) = subL (limbs n x) (limbs n y) 0 ∧ subK (limbs n x) (limbs n y) 0 = if x % B ^ n < y % B ^ n then 1 else 0 := by
  obtain ⟨h1, h2, h3, h4⟩ := subL_spec (limbs_inR n x) (limbs_inR n y) (by rw [limbs_len, limbs_len]) (k := 0) (by decide)
  rw [limbs_len] at h2 h4
  rw [val_limbs, val_limbs] at h4
  have hr := val_range h1
  rw [h2] at hr
  generalize hK : subK (limbs n x) (limbs n y) 0 = K at *
  have hx : 0 ≤ x % B ^ n ∧ x % B ^ n < B ^ n := ⟨Int.emod_nonneg _ (by have := Bpow_pos n; omega), Int.emod_lt_of_pos _ (Bpow_pos n)⟩
  have hy : 0 ≤ y % B ^ n ∧ y % B ^ n < B ^ n := ⟨Int.emod_nonneg _ (by have := Bpow_pos n; omega), Int.emod_lt_of_pos _ (Bpow_pos n)⟩
  constructor
  · refine limbs_of h1 h2 ?_
    rw [h4]
    have h5 : val (subL (limbs n x) (limbs n y) 0) % B ^ n = val (subL (limbs n x) (limbs n y) 0) := Int.emod_eq_of_lt hr.1 hr.2
    rw [h4] at h5
    rw [← h5, Int.add_mul_emod_self_left, Int.sub_zero, Int.sub_emod]
  · have hk : K = 0 ∨ K = 1 := by omega
    rcases hk with hk | hk <;> rw [hk] at h4 ⊢ <;> split <;> first | rfl | omega

theorem add_limbs (n : Nat) (x y : Int) : limbs n (x + y) = addL (limbs n x) (limbs n y) 0 := by
  obtain ⟨h1, h2, h3, h4⟩ := addL_spec (limbs_inR n x) (limbs_inR n y) (by rw [limbs_len, limbs_len]) (k := 0) (by decide)
  rw [limbs_len] at h2 h4
  rw [val_limbs, val_limbs] at h4
  have hr := val_range h1
  rw [h2] at hr
  refine limbs_of h1 h2 ?_
  have h5 : val (addL (limbs n x) (limbs n y) 0) % B ^ n = val (addL (limbs n x) (limbs n y) 0) := Int.emod_eq_of_lt hr.1 hr.2
  rw [← h5, h4, Int.add_zero, Int.sub_emod, Int.mul_emod_right, Int.sub_zero, Int.emod_emod, ← Int.add_emod]

theorem minus_ok : FnOK Try.prog FD 75 minusD := by
  refine fnOK_of gam0_ok mixed Try.func75 (enters_of Try.func75 (by kernel_rfl) rfl) ?_
  intro xs r ps h hps
  unfold minusD at h
  split at h
  · rename_i p q
    split at h
    · rename_i x c y d hx hy
      simp only [Option.some.injEq, Prod.mk.injEq] at h
      obtain ⟨rfl, rfl⟩ := h
      refine ⟨_, 100, [], _, _, fun w vs h => args2 (fun v hv => numOf_words fld hx hps.append.1 hv) (fun v hv => numOf_words fld hy hps.append.2 hv) h, minus_run x y, subPs_all (limbs_inR _ _) (limbs_inR _ _) bit_zero, ?_⟩
      intro E v hv
      exact tup2 (fun v hv => words_num fld (sub_limbs _ x y).1 hv) (fun v hv => one_int (sub_limbs _ x y).2 hv) hv
    · cases h
  · cases h

theorem plus_ok : FnOK Try.prog FD 76 plusD := by
  refine fnOK_of gam0_ok mixed Try.func76 (enters_of Try.func76 (by kernel_rfl) rfl) ?_
  intro xs r ps h hps
  unfold plusD at h
  split at h
  · rename_i p q
    split at h
    · rename_i x c y d hx hy
      simp only [Option.some.injEq, Prod.mk.injEq] at h
      obtain ⟨rfl, rfl⟩ := h
      refine ⟨_, 100, [], _, _, fun w vs h => args2 (fun v hv => numOf_words fld hx hps.append.1 hv) (fun v hv => numOf_words fld hy hps.append.2 hv) h, plus_run x y, addPs_all (limbs_inR _ _) (limbs_inR _ _) bit_zero, ?_⟩
      intro E v hv
      exact words_num fld (add_limbs _ x y) hv
    · cases h
  · cases h

end Go.Num

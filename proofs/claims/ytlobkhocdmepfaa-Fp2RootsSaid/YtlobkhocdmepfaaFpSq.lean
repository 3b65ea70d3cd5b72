/- A field's numbers: roots, which are odd, which are the greater. -/
import Derived.Test.YtlobkhocdmepfaaLawA
namespace Go.Num
open Go.Abs Go.Proofs Go.Shelf

def sqrtE : Nat := (4002409555221667393417789825735904156556882819939007885332058136124031650490837864442687629129015664037894272559787 + 1) / 4
def sqrtL : List Int := [17185665809301629611, 552535377879302143, 15693976698673184137, 15644892545385841839, 10576397981472451381, 468449654411884966]

/-- The power that is a root, where there is one. -/
def sqOf (a : Int) : Int := a ^ sqrtE

theorem sqrt_pow (a : Int) : runF Try.prog FD (gamP a) 600 Try.f81 [.agg [.tag (.pow a 1)], .agg (litsP sqrtL)] (List.replicate (2 + 6 * 16) .roll) =
    some (.v (.agg [.tag (.pow a sqrtE)]), List.replicate (15 + 6 * 16) (a = a)) := by kernel_rfl

theorem powSqrt_ok : FnOK Try.prog FD 81 (powD sqrtL sqOf) := by
  refine fnOK_ofG mixed Try.func81 (enters_of Try.func81 (by kernel_rfl) rfl) ?_
  intro xs r ps h hps
  unfold powD at h
  split at h
  · rename_i p q
    split at h
    · rename_i a l ha hl
      split at h
      · rename_i hL
        simp only [Option.some.injEq, Prod.mk.injEq] at h
        obtain ⟨rfl, rfl⟩ := h
        subst hL
        refine ⟨gamP a, gamP_ok a, _, 600, _, _, _, fun w vs h => args2 (fun v hv => el_pow1 (elOf_rel ha hv)) (fun v hv => lits_rel hl hv) h, sqrt_pow a, ?_, fun E v hv => pow_el.1 hv⟩
        intro p hp
        rw [List.eq_of_mem_replicate hp]
      · cases h
    · cases h
  · cases h

/-- Whether a number has a root. -/
def hasSq (a : Int) : Bool := decide (sqOf a * sqOf a % fld.m = a % fld.m)

def sqrtD : FnD FD
  | [.agg p] => match elOf p with
    | some a => some (.tup [.agg [.tag (.el (if hasSq a = true then sqOf a else 0))], .one (.bool false (hasSq a))], [])
    | _ => none
  | _ => none

def gamS : Gam FD := (81, powD sqrtL sqOf) :: gam5
theorem gamS_ok : GamOK Try.prog FD gamS := gam_cons powSqrt_ok gam5_ok

theorem sqrt_no_r (a : Int) : runF Try.prog FD gamS 100 Try.f65 [.agg [.tag (.el a)]] [.roll, .is true] =
    some ((Go.Abs.AV.tup ((Go.Abs.A0.agg ((Go.Abs.Part.int Go.IntKind.u64 Bool.true (0 : Int)) :: ((Go.Abs.Part.int Go.IntKind.u64 Bool.true (0 : Int)) :: ((Go.Abs.Part.int Go.IntKind.u64 Bool.true (0 : Int)) :: ((Go.Abs.Part.int Go.IntKind.u64 Bool.true (0 : Int)) :: ((Go.Abs.Part.int Go.IntKind.u64 Bool.true (0 : Int)) :: ((Go.Abs.Part.int Go.IntKind.u64 Bool.true (0 : Int)) :: ([] : List (Part FD.τ))))))))) :: ((Go.Abs.A0.one (Go.Abs.Part.bool Bool.true Bool.false)) :: ([] : List (A0 FD.τ))))), [((!(decide ((((Go.Num.sqOf a) * (Go.Num.sqOf a)) % (Go.Num.Fld.m Go.Num.fld)) = (a % (Go.Num.Fld.m Go.Num.fld))))) = Bool.true), (Go.Abs.EqT Go.Proofs.Try.prog (28 : Nat))]) := by kernel_rfl
theorem sqrt_no (a : Int)
    (h1 : ((!(decide ((((Go.Num.sqOf a) * (Go.Num.sqOf a)) % (Go.Num.Fld.m Go.Num.fld)) = (a % (Go.Num.Fld.m Go.Num.fld))))) = Bool.true))
    (h2 : (Go.Abs.EqT Go.Proofs.Try.prog (28 : Nat))) :
    ∃ ps, runF Try.prog FD gamS 100 Try.f65 [.agg [.tag (.el a)]] [.roll, .is true] = some ((Go.Abs.AV.tup ((Go.Abs.A0.agg ((Go.Abs.Part.int Go.IntKind.u64 Bool.true (0 : Int)) :: ((Go.Abs.Part.int Go.IntKind.u64 Bool.true (0 : Int)) :: ((Go.Abs.Part.int Go.IntKind.u64 Bool.true (0 : Int)) :: ((Go.Abs.Part.int Go.IntKind.u64 Bool.true (0 : Int)) :: ((Go.Abs.Part.int Go.IntKind.u64 Bool.true (0 : Int)) :: ((Go.Abs.Part.int Go.IntKind.u64 Bool.true (0 : Int)) :: ([] : List (Part FD.τ))))))))) :: ((Go.Abs.A0.one (Go.Abs.Part.bool Bool.true Bool.false)) :: ([] : List (A0 FD.τ))))), ps) ∧ AllQ ps := ⟨_, sqrt_no_r a, AllP.all ⟨h1, h2⟩⟩

theorem sqrt_yes_r (a : Int) : runF Try.prog FD gamS 100 Try.f65 [.agg [.tag (.el a)]] [.roll, .is false] =
    some ((Go.Abs.AV.tup ((Go.Abs.A0.agg ((Go.Abs.Part.tag (Go.Num.T.el (Go.Num.sqOf a))) :: ([] : List (Part FD.τ)))) :: ((Go.Abs.A0.one (Go.Abs.Part.bool Bool.true Bool.true)) :: ([] : List (A0 FD.τ))))), [((!(decide ((((Go.Num.sqOf a) * (Go.Num.sqOf a)) % (Go.Num.Fld.m Go.Num.fld)) = (a % (Go.Num.Fld.m Go.Num.fld))))) = Bool.false), (Go.Abs.EqT Go.Proofs.Try.prog (28 : Nat))]) := by kernel_rfl
theorem sqrt_yes (a : Int)
    (h1 : ((!(decide ((((Go.Num.sqOf a) * (Go.Num.sqOf a)) % (Go.Num.Fld.m Go.Num.fld)) = (a % (Go.Num.Fld.m Go.Num.fld))))) = Bool.false))
    (h2 : (Go.Abs.EqT Go.Proofs.Try.prog (28 : Nat))) :
    ∃ ps, runF Try.prog FD gamS 100 Try.f65 [.agg [.tag (.el a)]] [.roll, .is false] = some ((Go.Abs.AV.tup ((Go.Abs.A0.agg ((Go.Abs.Part.tag (Go.Num.T.el (Go.Num.sqOf a))) :: ([] : List (Part FD.τ)))) :: ((Go.Abs.A0.one (Go.Abs.Part.bool Bool.true Bool.true)) :: ([] : List (A0 FD.τ))))), ps) ∧ AllQ ps := ⟨_, sqrt_yes_r a, AllP.all ⟨h1, h2⟩⟩

def oddD : FnD FD
  | [.agg p] => match elOf p with
    | some a => some (.v (.one (.bool false (decide (a % fld.m % 2 = 1)))), [])
    | _ => none
  | _ => none

def largeD : FnD FD
  | [.agg p] => match elOf p with
    | some a => some (.v (.one (.bool false (decide ((0 - a) % fld.m < a % fld.m)))), [])
    | _ => none
  | _ => none

def gamG : Gam FD := (59, plainD) :: gam5
theorem gamG_ok : GamOK Try.prog FD gamG := gam_cons plain_ok gam5_ok

theorem odd_run_r (a : Int) : runF Try.prog FD gamB 100 Try.f67 [.agg [.tag (.el a)]] [.keep, .keep] =
    some ((Go.Abs.AV.v (Go.Abs.A0.one (Go.Abs.Part.bool ((Bool.false && Bool.true) && Bool.true) ((Go.Abs.bitsOf Go.BinOp.and Go.IntKind.u64 ((a % (Go.Num.Fld.m Go.Num.fld)) % Go.Num.B) (1 : Int)) == (1 : Int))))), []) := by kernel_rfl
theorem odd_run (a : Int) :
    ∃ ps, runF Try.prog FD gamB 100 Try.f67 [.agg [.tag (.el a)]] [.keep, .keep] = some ((Go.Abs.AV.v (Go.Abs.A0.one (Go.Abs.Part.bool ((Bool.false && Bool.true) && Bool.true) ((Go.Abs.bitsOf Go.BinOp.and Go.IntKind.u64 ((a % (Go.Num.Fld.m Go.Num.fld)) % Go.Num.B) (1 : Int)) == (1 : Int))))), ps) ∧ AllQ ps := ⟨_, odd_run_r a, allQ_nil⟩

theorem large_run_r (a : Int) : runF Try.prog FD gamG 100 Try.f68 [.agg [.tag (.el a)]] [.keep, .keep] =
    some ((Go.Abs.AV.v (Go.Abs.A0.one (Go.Abs.Part.bool (Bool.false && Bool.true) ((if (((((0 : Int) - a) % (Go.Num.Fld.m Go.Num.fld)) % (Go.Num.Fld.R Go.Num.fld)) < ((a % (Go.Num.Fld.m Go.Num.fld)) % (Go.Num.Fld.R Go.Num.fld))) then (1 : Int) else (0 : Int)) == (1 : Int))))), []) := by kernel_rfl
theorem large_run (a : Int) :
    ∃ ps, runF Try.prog FD gamG 100 Try.f68 [.agg [.tag (.el a)]] [.keep, .keep] = some ((Go.Abs.AV.v (Go.Abs.A0.one (Go.Abs.Part.bool (Bool.false && Bool.true) ((if (((((0 : Int) - a) % (Go.Num.Fld.m Go.Num.fld)) % (Go.Num.Fld.R Go.Num.fld)) < ((a % (Go.Num.Fld.m Go.Num.fld)) % (Go.Num.Fld.R Go.Num.fld))) then (1 : Int) else (0 : Int)) == (1 : Int))))), ps) ∧ AllQ ps := ⟨_, large_run_r a, allQ_nil⟩

theorem sqrt_ok : FnOK Try.prog FD 65 sqrtD := by
  refine fnOK_of gamS_ok mixed Try.func65 (enters_of Try.func65 (by kernel_rfl) rfl) ?_
  intro xs r ps h hps
  unfold sqrtD at h
  split at h
  · rename_i p
    split at h
    · rename_i a ha
      simp only [Option.some.injEq, Prod.mk.injEq] at h
      obtain ⟨rfl, rfl⟩ := h
      cases hs : hasSq a
      · have hd : decide (sqOf a * sqOf a % fld.m = a % fld.m) = false := hs
        obtain ⟨ps, h1, h2⟩ := sqrt_no a (by rw [hd]; rfl) el_eqT
        exact ⟨_, 100, _, _, _, fun w vs h => args1 (fun v hv => elOf_rel ha hv) h, h1, h2, fun E v hv => tup2 (fun v hv => el_zero hv) (fun v hv => one_bool rfl hv) hv⟩
      · have hd : decide (sqOf a * sqOf a % fld.m = a % fld.m) = true := hs
        obtain ⟨ps, h1, h2⟩ := sqrt_yes a (by rw [hd]; rfl) el_eqT
        exact ⟨_, 100, _, _, _, fun w vs h => args1 (fun v hv => elOf_rel ha hv) h, h1, h2, fun E v hv => tup2 (fun v hv => hv) (fun v hv => one_bool rfl hv) hv⟩
    · cases h
  · cases h

theorem and1w {x : Int} (h : 0 ≤ x ∧ x < 18446744073709551616) : bitsOf .and .u64 x 1 = x % 2 := by
  obtain ⟨x, rfl⟩ := Int.eq_ofNat_of_zero_le h.1
  show IntKind.u64.wrap (((BitVec.ofInt 64 (x : Int) &&& BitVec.ofInt 64 ((1 : Nat) : Int)).toNat : Nat) : Int) = _
  rw [BitVec.toNat_and, BitVec.ofInt_natCast, BitVec.ofInt_natCast, BitVec.toNat_ofNat, BitVec.toNat_ofNat, Nat.mod_eq_of_lt (by omega), Nat.mod_eq_of_lt (by omega), Nat.and_one_is_mod, IntKind.wrap_u64]
  omega

theorem odd_ok : FnOK Try.prog FD 67 oddD := by
  refine fnOK_of gamB_ok mixed Try.func67 (enters_of Try.func67 (by kernel_rfl) rfl) ?_
  intro xs r ps h hps
  unfold oddD at h
  split at h
  · rename_i p
    split at h
    · rename_i a ha
      simp only [Option.some.injEq, Prod.mk.injEq] at h
      obtain ⟨rfl, rfl⟩ := h
      obtain ⟨ps, h1, h2⟩ := odd_run a
      refine ⟨_, 100, _, _, _, fun w vs h => args1 (fun v hv => elOf_rel ha hv) h, h1, h2, fun E v hv => one_bool ?_ hv⟩
      have hB : 0 ≤ a % fld.m % B ∧ a % fld.m % B < B := ⟨Int.emod_nonneg _ (by decide), Int.emod_lt_of_pos _ (by decide)⟩
      rw [and1w (by unfold B at hB ⊢; exact hB), show a % fld.m % B % 2 = a % fld.m % 2 from Int.emod_emod_of_dvd _ (by decide)]
      rw [Bool.eq_iff_iff]
      simp
    · cases h
  · cases h

theorem large_ok : FnOK Try.prog FD 68 largeD := by
  refine fnOK_of gamG_ok mixed Try.func68 (enters_of Try.func68 (by kernel_rfl) rfl) ?_
  intro xs r ps h hps
  unfold largeD at h
  split at h
  · rename_i p
    split at h
    · rename_i a ha
      simp only [Option.some.injEq, Prod.mk.injEq] at h
      obtain ⟨rfl, rfl⟩ := h
      obtain ⟨ps, h1, h2⟩ := large_run a
      refine ⟨_, 100, _, _, _, fun w vs h => args1 (fun v hv => elOf_rel ha hv) h, h1, h2, fun E v hv => one_bool ?_ hv⟩
      have hr : ∀ x : Int, x % fld.m % fld.R = x % fld.m := fun x => Int.emod_eq_of_lt (Int.emod_nonneg _ (by have := fld.hm; omega)) (by have := Int.emod_lt_of_pos x fld.pos; have := fld.R_pos; omega)
      rw [hr, hr]
      by_cases hc : (0 - a) % fld.m < a % fld.m
      · rw [if_pos hc, decide_eq_true hc]; rfl
      · rw [if_neg hc, decide_eq_false hc]; rfl
    · cases h
  · cases h

end Go.Num

/- A field's numbers read out of bytes. -/
import Derived.Test.YtbgcfmmkbocpoaaEl7
namespace Go.Num
open Go.Abs Go.Proofs Go.Shelf

/-- The number that bytes are, if they are one; else nought. -/
def readN (l : List Int) : Int := if l.length = 48 ∧ be l < fld.m then be l else 0
def readE (l : List Int) : Int := if l.length = 48 then (if be l < fld.m then 0 else 12) else 10

def readD : FnD FD
  | [.one (.words .u8 l)] => some (.tup [.agg [.tag (.el (readN l))], .one (.int .i64 false (readE l))], [InB l, l.length ≤ 9223372036854775807])
  | _ => none

def gamR : Gam FD := (53, timesED) :: (79, wordsD) :: gam5
theorem gamR_ok : GamOK Try.prog FD gamR := gam_cons timesE_ok (gam_cons words_ok gam5_ok)

theorem el_zero {E : Env} {v : Value} (h : A0Rel FD E (.agg [.int .u64 true 0, .int .u64 true 0, .int .u64 true 0, .int .u64 true 0, .int .u64 true 0, .int .u64 true 0]) v) : A0Rel FD E (.agg [.tag (.el 0)]) v := elOf_rel (ps := [.int .u64 true 0, .int .u64 true 0, .int .u64 true 0, .int .u64 true 0, .int .u64 true 0, .int .u64 true 0]) (by kernel_rfl) h

theorem read_len (l : List Int) : runF Try.prog FD gamR 300 Try.f62 [.one (.words .u8 l)] [.is true] =
    some (.tup [.agg [.int .u64 true 0, .int .u64 true 0, .int .u64 true 0, .int .u64 true 0, .int .u64 true 0, .int .u64 true 0], .one (.int .i64 true 10)], [((l.length : Int) != 48) = true]) := by kernel_rfl

theorem read_big (l : List Int) : runF Try.prog FD gamR 300 Try.f62 [.one (.words .u8 l)] [.is false, .is true] =
    some (.tup [.agg [.int .u64 true 0, .int .u64 true 0, .int .u64 true 0, .int .u64 true 0, .int .u64 true 0, .int .u64 true 0], .one (.int .i64 true 12)], [((l.length : Int) != 48) = false, l.length ≤ 48, InB l, ((if be l % fld.R < fld.m % fld.R then (1 : Int) else 0) == 0) = true]) := by kernel_rfl

theorem read_fit (l : List Int) : runF Try.prog FD gamR 300 Try.f62 [.one (.words .u8 l)] [.is false, .is false] =
    some (.tup [.agg [.tag (.el (fld.R * (be l % fld.R) * fld.ri))], .one (.int .i64 true 0)], [((l.length : Int) != 48) = false, l.length ≤ 48, InB l, ((if be l % fld.R < fld.m % fld.R then (1 : Int) else 0) == 0) = false]) := by kernel_rfl

theorem be_R {l : List Int} (h : InB l) (hl : l.length ≤ 48) : be l % fld.R = be l := by
  have h1 := be_range h
  have h2 := pow_mono_256 hl
  rw [show (256 : Int) ^ 48 = B ^ 6 from pow_256 6] at h2
  exact Int.emod_eq_of_lt h1.1 (by show be l < B ^ 6; omega)

theorem R_ri (y : Int) : fld.R * y * fld.ri % fld.m = y % fld.m := by
  obtain ⟨k, hk⟩ := fld.ri_eq
  refine emod_congr (y * k) ?_
  rw [Int.mul_right_comm, hk]
  generalize fld.m = m
  grind

theorem read_ok : FnOK Try.prog FD 62 readD := by
  refine fnOK_of gamR_ok mixed Try.func62 (enters_of Try.func62 (by kernel_rfl) rfl) ?_
  intro xs r ps h hps
  unfold readD at h
  split at h
  · rename_i l
    simp only [Option.some.injEq, Prod.mk.injEq] at h
    obtain ⟨rfl, rfl⟩ := h
    have hb : InB l := hps _ (by simp)
    by_cases hl : l.length = 48
    · have h0 : ((l.length : Int) != 48) = false := by rw [hl]; rfl
      have hR := be_R hb (by omega)
      have hm : fld.m % fld.R = fld.m := Int.emod_eq_of_lt (by have := fld.hm; omega) fld.R_pos
      by_cases hc : be l < fld.m
      · have h1 : ((if be l % fld.R < fld.m % fld.R then (1 : Int) else 0) == 0) = false := by rw [hR, hm, if_pos hc]; rfl
        refine ⟨_, 300, _, _, _, fun w vs h => h, read_fit l, AllP.all ⟨h0, by omega, hb, h1⟩, fun E v hv => ?_⟩
        rw [readN, if_pos ⟨hl, hc⟩, readE, if_pos hl, if_pos hc]
        exact tup2 (fun v hv => el_el fld (by rw [hR, R_ri]) hv) (fun v hv => hv) hv
      · have h1 : ((if be l % fld.R < fld.m % fld.R then (1 : Int) else 0) == 0) = true := by rw [hR, hm, if_neg hc]; rfl
        refine ⟨_, 300, _, _, _, fun w vs h => h, read_big l, AllP.all ⟨h0, by omega, hb, h1⟩, fun E v hv => ?_⟩
        rw [readN, if_neg (fun h => hc h.2), readE, if_pos hl, if_neg hc]
        exact tup2 (fun v hv => el_zero hv) (fun v hv => hv) hv
    · refine ⟨_, 300, _, _, _, fun w vs h => h, read_len l, AllP.all ?_, fun E v hv => ?_⟩
      · show ((l.length : Int) != 48) = true
        rw [bne_iff_ne]; omega
      · rw [readN, if_neg (fun h => hl h.1), readE, if_neg hl]
        exact tup2 (fun v hv => el_zero hv) (fun v hv => hv) hv
  · cases h

end Go.Num

/- FpRoots: which numbers have a root, are odd, are the greater. -/
import Derived.Test.YtnjcnfaopdgjgaaLawB
namespace Go.Num
open Go.Abs Go.Proofs Go.Shelf Go.Alg

theorem roots_long_r (l : List Int) : runF Try.prog FD gamZ 200 Try.f9 [.one (.words .u8 l)] [.is true] =
    some ((Go.Abs.AV.v (Go.Abs.A0.one (Go.Abs.Part.bool Bool.true Bool.true))), [((decide ((((List.length l) : Nat) : Int) > (64 : Int))) = Bool.true)]) := by kernel_rfl
theorem roots_long (l : List Int)
    (h1 : ((decide ((((List.length l) : Nat) : Int) > (64 : Int))) = Bool.true)) :
    ∃ ps, runF Try.prog FD gamZ 200 Try.f9 [.one (.words .u8 l)] [.is true] = some ((Go.Abs.AV.v (Go.Abs.A0.one (Go.Abs.Part.bool Bool.true Bool.true))), ps) ∧ AllQ ps := ⟨_, roots_long_r l, AllP.all h1⟩

theorem roots_yes_r (l : List Int) : runF Try.prog FD gamZ 200 Try.f9 [.one (.words .u8 l)] [.is false, .is true, .is true, .is true, .keep, .keep, .is true, .keep, .keep, .is true] =
    some ((Go.Abs.AV.v (Go.Abs.A0.one (Go.Abs.Part.bool Bool.true Bool.true))), [((decide ((((List.length l) : Nat) : Int) > (64 : Int))) = Bool.false), (Go.Num.InB l), ((List.length l) ≤ (1000000 : Nat)), (Go.Num.In16 (Go.Num.W (24 : Nat) ((Go.Num.be l) % (Go.Num.Fld.m Go.Num.fld)))), ((List.length (Go.Num.W (24 : Nat) ((Go.Num.be l) % (Go.Num.Fld.m Go.Num.fld)))) ≤ (1000000 : Nat)), ((decide ((((Go.Num.sqOf (Go.Num.v16 (Go.Num.W (24 : Nat) ((Go.Num.be l) % (Go.Num.Fld.m Go.Num.fld))))) * (Go.Num.sqOf (Go.Num.v16 (Go.Num.W (24 : Nat) ((Go.Num.be l) % (Go.Num.Fld.m Go.Num.fld)))))) % (Go.Num.Fld.m Go.Num.fld)) = (Go.Num.v16 (Go.Num.W (24 : Nat) ((Go.Num.be l) % (Go.Num.Fld.m Go.Num.fld)))))) = Bool.true), ((Go.Num.hasSq (Go.Num.be l)) = Bool.true), ((decide (((if ((Go.Num.hasSq (Go.Num.be l)) = Bool.true) then (Go.Num.sqOf (Go.Num.be l)) else (0 : Int)) % (Go.Num.Fld.m Go.Num.fld)) = ((Go.Num.v16 (Go.Num.W (24 : Nat) ((Go.Num.sqOf (Go.Num.v16 (Go.Num.W (24 : Nat) ((Go.Num.be l) % (Go.Num.Fld.m Go.Num.fld))))) % (Go.Num.Fld.m Go.Num.fld)))) % ((256 : Int) ^ (48 : Nat))))) = Bool.true), (Go.Num.In16 (Go.Num.W (24 : Nat) ((Go.Num.sqOf (Go.Num.v16 (Go.Num.W (24 : Nat) ((Go.Num.be l) % (Go.Num.Fld.m Go.Num.fld))))) % (Go.Num.Fld.m Go.Num.fld)))), ((0 : Int) ≤ (0 : Int)), ((0 : Int) < (((List.length (Go.Num.W (24 : Nat) ((Go.Num.be l) % (Go.Num.Fld.m Go.Num.fld)))) : Nat) : Int)), ((0 : Nat) < (List.length (Go.Num.W (24 : Nat) ((Go.Num.be l) % (Go.Num.Fld.m Go.Num.fld))))), (((decide ((((Go.Num.be l) % (Go.Num.Fld.m Go.Num.fld)) % (2 : Int)) = (1 : Int))) == ((Go.Abs.bitsOf Go.BinOp.and Go.IntKind.u32 (List.getD (Go.Num.W (24 : Nat) ((Go.Num.be l) % (Go.Num.Fld.m Go.Num.fld))) (0 : Nat) (0 : Int)) (1 : Int)) == (1 : Int))) = Bool.true), (Go.Num.In16 (Go.Num.W (24 : Nat) ((Go.Num.be l) % (Go.Num.Fld.m Go.Num.fld)))), ((List.length (Go.Num.W (24 : Nat) ((Go.Num.be l) % (Go.Num.Fld.m Go.Num.fld)))) ≤ (1000000 : Nat)), (((decide ((((0 : Int) - (Go.Num.be l)) % (Go.Num.Fld.m Go.Num.fld)) < ((Go.Num.be l) % (Go.Num.Fld.m Go.Num.fld)))) == (decide ((Go.Num.Fld.m Go.Num.fld) < ((2 : Int) * (Go.Num.v16 (Go.Num.W (24 : Nat) ((Go.Num.be l) % (Go.Num.Fld.m Go.Num.fld)))))))) = Bool.true)]) := by kernel_rfl
theorem roots_yes (l : List Int)
    (h1 : ((decide ((((List.length l) : Nat) : Int) > (64 : Int))) = Bool.false))
    (h2 : (Go.Num.InB l))
    (h3 : ((List.length l) ≤ (1000000 : Nat)))
    (h4 : (Go.Num.In16 (Go.Num.W (24 : Nat) ((Go.Num.be l) % (Go.Num.Fld.m Go.Num.fld)))))
    (h5 : ((List.length (Go.Num.W (24 : Nat) ((Go.Num.be l) % (Go.Num.Fld.m Go.Num.fld)))) ≤ (1000000 : Nat)))
    (h6 : ((decide ((((Go.Num.sqOf (Go.Num.v16 (Go.Num.W (24 : Nat) ((Go.Num.be l) % (Go.Num.Fld.m Go.Num.fld))))) * (Go.Num.sqOf (Go.Num.v16 (Go.Num.W (24 : Nat) ((Go.Num.be l) % (Go.Num.Fld.m Go.Num.fld)))))) % (Go.Num.Fld.m Go.Num.fld)) = (Go.Num.v16 (Go.Num.W (24 : Nat) ((Go.Num.be l) % (Go.Num.Fld.m Go.Num.fld)))))) = Bool.true))
    (h7 : ((Go.Num.hasSq (Go.Num.be l)) = Bool.true))
    (h8 : ((decide (((if ((Go.Num.hasSq (Go.Num.be l)) = Bool.true) then (Go.Num.sqOf (Go.Num.be l)) else (0 : Int)) % (Go.Num.Fld.m Go.Num.fld)) = ((Go.Num.v16 (Go.Num.W (24 : Nat) ((Go.Num.sqOf (Go.Num.v16 (Go.Num.W (24 : Nat) ((Go.Num.be l) % (Go.Num.Fld.m Go.Num.fld))))) % (Go.Num.Fld.m Go.Num.fld)))) % ((256 : Int) ^ (48 : Nat))))) = Bool.true))
    (h9 : (Go.Num.In16 (Go.Num.W (24 : Nat) ((Go.Num.sqOf (Go.Num.v16 (Go.Num.W (24 : Nat) ((Go.Num.be l) % (Go.Num.Fld.m Go.Num.fld))))) % (Go.Num.Fld.m Go.Num.fld)))))
    (h10 : ((0 : Int) < (((List.length (Go.Num.W (24 : Nat) ((Go.Num.be l) % (Go.Num.Fld.m Go.Num.fld)))) : Nat) : Int)))
    (h11 : ((0 : Nat) < (List.length (Go.Num.W (24 : Nat) ((Go.Num.be l) % (Go.Num.Fld.m Go.Num.fld))))))
    (h12 : (((decide ((((Go.Num.be l) % (Go.Num.Fld.m Go.Num.fld)) % (2 : Int)) = (1 : Int))) == ((Go.Abs.bitsOf Go.BinOp.and Go.IntKind.u32 (List.getD (Go.Num.W (24 : Nat) ((Go.Num.be l) % (Go.Num.Fld.m Go.Num.fld))) (0 : Nat) (0 : Int)) (1 : Int)) == (1 : Int))) = Bool.true))
    (h13 : (((decide ((((0 : Int) - (Go.Num.be l)) % (Go.Num.Fld.m Go.Num.fld)) < ((Go.Num.be l) % (Go.Num.Fld.m Go.Num.fld)))) == (decide ((Go.Num.Fld.m Go.Num.fld) < ((2 : Int) * (Go.Num.v16 (Go.Num.W (24 : Nat) ((Go.Num.be l) % (Go.Num.Fld.m Go.Num.fld)))))))) = Bool.true)) :
    ∃ ps, runF Try.prog FD gamZ 200 Try.f9 [.one (.words .u8 l)] [.is false, .is true, .is true, .is true, .keep, .keep, .is true, .keep, .keep, .is true] = some ((Go.Abs.AV.v (Go.Abs.A0.one (Go.Abs.Part.bool Bool.true Bool.true))), ps) ∧ AllQ ps := ⟨_, roots_yes_r l, AllP.all ⟨h1, h2, h3, h4, h5, h6, h7, h8, h9, (show ((0 : Int) ≤ (0 : Int)) from by decide), h10, h11, h12, h4, h5, h13⟩⟩

theorem roots_no_r (l : List Int) : runF Try.prog FD gamZ 200 Try.f9 [.one (.words .u8 l)] [.is false, .is false, .is false, .is true, .keep, .keep, .is true, .keep, .keep, .is true] =
    some ((Go.Abs.AV.v (Go.Abs.A0.one (Go.Abs.Part.bool Bool.true Bool.true))), [((decide ((((List.length l) : Nat) : Int) > (64 : Int))) = Bool.false), (Go.Num.InB l), ((List.length l) ≤ (1000000 : Nat)), (Go.Num.In16 (Go.Num.W (24 : Nat) ((Go.Num.be l) % (Go.Num.Fld.m Go.Num.fld)))), ((List.length (Go.Num.W (24 : Nat) ((Go.Num.be l) % (Go.Num.Fld.m Go.Num.fld)))) ≤ (1000000 : Nat)), ((decide ((((Go.Num.sqOf (Go.Num.v16 (Go.Num.W (24 : Nat) ((Go.Num.be l) % (Go.Num.Fld.m Go.Num.fld))))) * (Go.Num.sqOf (Go.Num.v16 (Go.Num.W (24 : Nat) ((Go.Num.be l) % (Go.Num.Fld.m Go.Num.fld)))))) % (Go.Num.Fld.m Go.Num.fld)) = (Go.Num.v16 (Go.Num.W (24 : Nat) ((Go.Num.be l) % (Go.Num.Fld.m Go.Num.fld)))))) = Bool.false), ((Go.Num.hasSq (Go.Num.be l)) = Bool.false), ((decide (((if ((Go.Num.hasSq (Go.Num.be l)) = Bool.true) then (Go.Num.sqOf (Go.Num.be l)) else (0 : Int)) % (Go.Num.Fld.m Go.Num.fld)) = ((0 : Int) % (Go.Num.Fld.m Go.Num.fld)))) = Bool.true), ((0 : Int) ≤ (0 : Int)), ((0 : Int) < (((List.length (Go.Num.W (24 : Nat) ((Go.Num.be l) % (Go.Num.Fld.m Go.Num.fld)))) : Nat) : Int)), ((0 : Nat) < (List.length (Go.Num.W (24 : Nat) ((Go.Num.be l) % (Go.Num.Fld.m Go.Num.fld))))), (((decide ((((Go.Num.be l) % (Go.Num.Fld.m Go.Num.fld)) % (2 : Int)) = (1 : Int))) == ((Go.Abs.bitsOf Go.BinOp.and Go.IntKind.u32 (List.getD (Go.Num.W (24 : Nat) ((Go.Num.be l) % (Go.Num.Fld.m Go.Num.fld))) (0 : Nat) (0 : Int)) (1 : Int)) == (1 : Int))) = Bool.true), (Go.Num.In16 (Go.Num.W (24 : Nat) ((Go.Num.be l) % (Go.Num.Fld.m Go.Num.fld)))), ((List.length (Go.Num.W (24 : Nat) ((Go.Num.be l) % (Go.Num.Fld.m Go.Num.fld)))) ≤ (1000000 : Nat)), (((decide ((((0 : Int) - (Go.Num.be l)) % (Go.Num.Fld.m Go.Num.fld)) < ((Go.Num.be l) % (Go.Num.Fld.m Go.Num.fld)))) == (decide ((Go.Num.Fld.m Go.Num.fld) < ((2 : Int) * (Go.Num.v16 (Go.Num.W (24 : Nat) ((Go.Num.be l) % (Go.Num.Fld.m Go.Num.fld)))))))) = Bool.true)]) := by kernel_rfl
theorem roots_no (l : List Int)
    (h1 : ((decide ((((List.length l) : Nat) : Int) > (64 : Int))) = Bool.false))
    (h2 : (Go.Num.InB l))
    (h3 : ((List.length l) ≤ (1000000 : Nat)))
    (h4 : (Go.Num.In16 (Go.Num.W (24 : Nat) ((Go.Num.be l) % (Go.Num.Fld.m Go.Num.fld)))))
    (h5 : ((List.length (Go.Num.W (24 : Nat) ((Go.Num.be l) % (Go.Num.Fld.m Go.Num.fld)))) ≤ (1000000 : Nat)))
    (h6 : ((decide ((((Go.Num.sqOf (Go.Num.v16 (Go.Num.W (24 : Nat) ((Go.Num.be l) % (Go.Num.Fld.m Go.Num.fld))))) * (Go.Num.sqOf (Go.Num.v16 (Go.Num.W (24 : Nat) ((Go.Num.be l) % (Go.Num.Fld.m Go.Num.fld)))))) % (Go.Num.Fld.m Go.Num.fld)) = (Go.Num.v16 (Go.Num.W (24 : Nat) ((Go.Num.be l) % (Go.Num.Fld.m Go.Num.fld)))))) = Bool.false))
    (h7 : ((Go.Num.hasSq (Go.Num.be l)) = Bool.false))
    (h8 : ((decide (((if ((Go.Num.hasSq (Go.Num.be l)) = Bool.true) then (Go.Num.sqOf (Go.Num.be l)) else (0 : Int)) % (Go.Num.Fld.m Go.Num.fld)) = ((0 : Int) % (Go.Num.Fld.m Go.Num.fld)))) = Bool.true))
    (h9 : ((0 : Int) < (((List.length (Go.Num.W (24 : Nat) ((Go.Num.be l) % (Go.Num.Fld.m Go.Num.fld)))) : Nat) : Int)))
    (h10 : ((0 : Nat) < (List.length (Go.Num.W (24 : Nat) ((Go.Num.be l) % (Go.Num.Fld.m Go.Num.fld))))))
    (h11 : (((decide ((((Go.Num.be l) % (Go.Num.Fld.m Go.Num.fld)) % (2 : Int)) = (1 : Int))) == ((Go.Abs.bitsOf Go.BinOp.and Go.IntKind.u32 (List.getD (Go.Num.W (24 : Nat) ((Go.Num.be l) % (Go.Num.Fld.m Go.Num.fld))) (0 : Nat) (0 : Int)) (1 : Int)) == (1 : Int))) = Bool.true))
    (h12 : (((decide ((((0 : Int) - (Go.Num.be l)) % (Go.Num.Fld.m Go.Num.fld)) < ((Go.Num.be l) % (Go.Num.Fld.m Go.Num.fld)))) == (decide ((Go.Num.Fld.m Go.Num.fld) < ((2 : Int) * (Go.Num.v16 (Go.Num.W (24 : Nat) ((Go.Num.be l) % (Go.Num.Fld.m Go.Num.fld)))))))) = Bool.true)) :
    ∃ ps, runF Try.prog FD gamZ 200 Try.f9 [.one (.words .u8 l)] [.is false, .is false, .is false, .is true, .keep, .keep, .is true, .keep, .keep, .is true] = some ((Go.Abs.AV.v (Go.Abs.A0.one (Go.Abs.Part.bool Bool.true Bool.true))), ps) ∧ AllQ ps := ⟨_, roots_no_r l, AllP.all ⟨h1, h2, h3, h4, h5, h6, h7, h8, (show ((0 : Int) ≤ (0 : Int)) from by decide), h9, h10, h11, h4, h5, h12⟩⟩

theorem sqOf_mod (b : Int) : sqOf (b % fld.m) % fld.m = sqOf b % fld.m := (cg_mod fld.m b).pow sqrtE

theorem sq_mod (b : Int) : sqOf (b % fld.m) * sqOf (b % fld.m) % fld.m = sqOf b * sqOf b % fld.m := by
  rw [Int.mul_emod, sqOf_mod, ← Int.mul_emod]

theorem lawRoots {l : List Int} (hb : InB l) (_hl : l.length ≤ 140737488351232) : LawOK Try.f9 [.one (.words .u8 l)] := by
  by_cases h : (l.length : Int) > 64
  · obtain ⟨ps, h1, h2⟩ := roots_long l (decide_eq_true h)
    exact ⟨gamZ, gamZ_ok, _, ps, h1, h2⟩
  have hd : ∀ c : Bool, hasSq (be l) = c → decide (sqOf (v16 (W 24 (be l % fld.m))) * sqOf (v16 (W 24 (be l % fld.m))) % fld.m = v16 (W 24 (be l % fld.m))) = c := by
    intro c hc
    rw [vX, ← hc, sq_mod]
    rfl
  have hr := mod_m (be l)
  have hodd : (decide (be l % fld.m % 2 = 1) == (bitsOf .and .u32 ((W 24 (be l % fld.m)).getD 0 0) 1 == 1)) = true := by
    have e : (W 24 (be l % fld.m)).getD 0 0 = be l % fld.m % H := by rw [W_getD (by omega), Int.pow_zero, Int.ediv_one]
    have hz := mod_H (be l % fld.m)
    rw [e, and1 (by unfold H at hz ⊢; omega), show be l % fld.m % H % 2 = be l % fld.m % 2 from Int.emod_emod_of_dvd _ (by decide)]
    rcases Int.emod_two_eq (be l % fld.m) with h1 | h1 <;> rw [h1] <;> rfl
  have hlarge : (decide ((0 - be l) % fld.m < be l % fld.m) == decide (fld.m < 2 * v16 (W 24 (be l % fld.m)))) = true := by
    rw [vX]
    by_cases hz : be l % fld.m = 0
    · have hz2 : (0 - be l) % fld.m = 0 := by
        rw [Int.sub_emod, hz]
        rfl
      rw [hz, hz2]
      decide
    · rw [neg_mod hz]
      generalize be l % fld.m = x at *
      generalize fld.m = m at *
      by_cases hc : m - x < x
      · rw [decide_eq_true hc, decide_eq_true (by omega)]
        rfl
      · rw [decide_eq_false hc, decide_eq_false (by omega)]
        rfl
  cases hs : hasSq (be l)
  · obtain ⟨ps, h1, h2⟩ := roots_no l (decide_eq_false h) hb (by omega) (W_in16 _ _) (by rw [W_len]; omega) (hd _ hs) hs (by rw [if_neg (by rw [hs]; decide)]; decide) (by rw [W_len]; decide) (by rw [W_len]; decide) hodd hlarge
    exact ⟨gamZ, gamZ_ok, _, ps, h1, h2⟩
  · obtain ⟨ps, h1, h2⟩ := roots_yes l (decide_eq_false h) hb (by omega) (W_in16 _ _) (by rw [W_len]; omega) (hd _ hs) hs (decide_eq_true (by rw [if_pos hs, vX, vX, pX, sqOf_mod])) (W_in16 _ _) (by rw [W_len]; decide) (by rw [W_len]; decide) hodd hlarge
    exact ⟨gamZ, gamZ_ok, _, ps, h1, h2⟩

end Go.Num

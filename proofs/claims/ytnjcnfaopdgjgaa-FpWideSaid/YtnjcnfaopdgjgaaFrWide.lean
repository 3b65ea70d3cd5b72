/- FrWide: any bytes are a number modulo the modulus. -/
import Derived.Test.YtnjcnfaopdgjgaaLawB
namespace Go.Num
open Go.Abs Go.Proofs Go.Shelf Go.Alg

theorem wide_low_r (l : List Int) : runF Try.prog FD gamZ 200 Try.f6 [.one (.words .u8 l)] [.is false, .is true, .is true] =
    some ((Go.Abs.AV.v (Go.Abs.A0.one (Go.Abs.Part.bool Bool.true Bool.true))), [((decide ((((List.length l) : Nat) : Int) > (400 : Int))) = Bool.false), ((List.length l) ≤ (281474976710656 : Nat)), (Go.Num.InB l), ((List.length l) ≤ (9223372036854775807 : Nat)), (Go.Num.InB l), ((List.length l) ≤ (140737488351232 : Nat)), (Go.Num.In16 (Go.Num.W (((List.length l) + (1 : Nat)) / (2 : Nat)) (Go.Num.be l))), (Go.Num.In16 (Go.Num.W (24 : Nat) (Go.Num.Fld.m Go.Num.fld))), ((0 : Int) < (Go.Num.v16 (Go.Num.W (24 : Nat) (Go.Num.Fld.m Go.Num.fld)))), ((List.length (Go.Num.W (((List.length l) + (1 : Nat)) / (2 : Nat)) (Go.Num.be l))) ≤ (1099511627776 : Nat)), ((List.length (Go.Num.W (24 : Nat) (Go.Num.Fld.m Go.Num.fld))) ≤ (1099511627775 : Nat)), ((decide (((Go.Num.be l) % (Go.Num.Fld.m Go.Num.fld)) = ((Go.Num.v16 (Go.Num.W (List.length (Go.Num.W (24 : Nat) (Go.Num.Fld.m Go.Num.fld))) ((Go.Num.v16 (Go.Num.W (((List.length l) + (1 : Nat)) / (2 : Nat)) (Go.Num.be l))) % (Go.Num.v16 (Go.Num.W (24 : Nat) (Go.Num.Fld.m Go.Num.fld)))))) % ((256 : Int) ^ (48 : Nat))))) = Bool.true), (Go.Num.In16 (Go.Num.W (List.length (Go.Num.W (24 : Nat) (Go.Num.Fld.m Go.Num.fld))) ((Go.Num.v16 (Go.Num.W (((List.length l) + (1 : Nat)) / (2 : Nat)) (Go.Num.be l))) % (Go.Num.v16 (Go.Num.W (24 : Nat) (Go.Num.Fld.m Go.Num.fld)))))), ((decide (l = l)) = Bool.true), ((List.length l) ≤ (9223372036854775807 : Nat)), ((List.length l) ≤ (9223372036854775807 : Nat))]) := by kernel_rfl
theorem wide_low (l : List Int)
    (h1 : ((decide ((((List.length l) : Nat) : Int) > (400 : Int))) = Bool.false))
    (h2 : ((List.length l) ≤ (281474976710656 : Nat)))
    (h3 : (Go.Num.InB l))
    (h4 : ((List.length l) ≤ (9223372036854775807 : Nat)))
    (h5 : ((List.length l) ≤ (140737488351232 : Nat)))
    (h6 : (Go.Num.In16 (Go.Num.W (((List.length l) + (1 : Nat)) / (2 : Nat)) (Go.Num.be l))))
    (h7 : (Go.Num.In16 (Go.Num.W (24 : Nat) (Go.Num.Fld.m Go.Num.fld))))
    (h8 : ((List.length (Go.Num.W (((List.length l) + (1 : Nat)) / (2 : Nat)) (Go.Num.be l))) ≤ (1099511627776 : Nat)))
    (h9 : ((decide (((Go.Num.be l) % (Go.Num.Fld.m Go.Num.fld)) = ((Go.Num.v16 (Go.Num.W (List.length (Go.Num.W (24 : Nat) (Go.Num.Fld.m Go.Num.fld))) ((Go.Num.v16 (Go.Num.W (((List.length l) + (1 : Nat)) / (2 : Nat)) (Go.Num.be l))) % (Go.Num.v16 (Go.Num.W (24 : Nat) (Go.Num.Fld.m Go.Num.fld)))))) % ((256 : Int) ^ (48 : Nat))))) = Bool.true))
    (h10 : (Go.Num.In16 (Go.Num.W (List.length (Go.Num.W (24 : Nat) (Go.Num.Fld.m Go.Num.fld))) ((Go.Num.v16 (Go.Num.W (((List.length l) + (1 : Nat)) / (2 : Nat)) (Go.Num.be l))) % (Go.Num.v16 (Go.Num.W (24 : Nat) (Go.Num.Fld.m Go.Num.fld)))))))
    (h11 : ((decide (l = l)) = Bool.true)) :
    ∃ ps, runF Try.prog FD gamZ 200 Try.f6 [.one (.words .u8 l)] [.is false, .is true, .is true] = some ((Go.Abs.AV.v (Go.Abs.A0.one (Go.Abs.Part.bool Bool.true Bool.true))), ps) ∧ AllQ ps := ⟨_, wide_low_r l, AllP.all ⟨h1, h2, h3, h4, h3, h5, h6, h7, (show ((0 : Int) < (Go.Num.v16 (Go.Num.W (24 : Nat) (Go.Num.Fld.m Go.Num.fld)))) from by decide), h8, (show ((List.length (Go.Num.W (24 : Nat) (Go.Num.Fld.m Go.Num.fld))) ≤ (1099511627775 : Nat)) from by decide), h9, h10, h11, h4, h4⟩⟩

theorem wide_long_r (l : List Int) : runF Try.prog FD gamZ 200 Try.f6 [.one (.words .u8 l)] [.is true] =
    some ((Go.Abs.AV.v (Go.Abs.A0.one (Go.Abs.Part.bool Bool.true Bool.true))), [((decide ((((List.length l) : Nat) : Int) > (400 : Int))) = Bool.true)]) := by kernel_rfl
theorem wide_long (l : List Int)
    (h1 : ((decide ((((List.length l) : Nat) : Int) > (400 : Int))) = Bool.true)) :
    ∃ ps, runF Try.prog FD gamZ 200 Try.f6 [.one (.words .u8 l)] [.is true] = some ((Go.Abs.AV.v (Go.Abs.A0.one (Go.Abs.Part.bool Bool.true Bool.true))), ps) ∧ AllQ ps := ⟨_, wide_long_r l, AllP.all h1⟩

theorem lawWide {l : List Int} (hb : InB l) (hl : l.length ≤ 140737488351232) : LawOK Try.f6 [.one (.words .u8 l)] := by
  by_cases h : (l.length : Int) > 400
  · obtain ⟨ps, h1, h2⟩ := wide_long l (decide_eq_true h)
    exact ⟨gamZ, gamZ_ok, _, ps, h1, h2⟩
  · obtain ⟨ps, h1, h2⟩ := wide_low l (decide_eq_false h) (by omega) hb (by omega) hl (W_in16 _ _) (W_in16 _ _) (by rw [W_len]; omega) (decide_eq_true (by rw [W_len, vbe hb, vM, vX, pX])) (W_in16 _ _) (decide_eq_true rfl)
    exact ⟨gamZ, gamZ_ok, _, ps, h1, h2⟩

end Go.Num

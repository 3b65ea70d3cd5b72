/- FpSquares: every square has a root. -/
import Derived.Test.YtnjcnfaopdgjgaaLawB
namespace Go.Num
open Go.Abs Go.Proofs Go.Shelf Go.Alg

theorem squares_long_r (l : List Int) : runF Try.prog FD gamZ 200 Try.f4 [.one (.words .u8 l)] [.is true] =
    some ((Go.Abs.AV.v (Go.Abs.A0.one (Go.Abs.Part.bool Bool.true Bool.true))), [((decide ((((List.length l) : Nat) : Int) > (400 : Int))) = Bool.true)]) := by kernel_rfl
theorem squares_long (l : List Int)
    (h1 : ((decide ((((List.length l) : Nat) : Int) > (400 : Int))) = Bool.true)) :
    ∃ ps, runF Try.prog FD gamZ 200 Try.f4 [.one (.words .u8 l)] [.is true] = some ((Go.Abs.AV.v (Go.Abs.A0.one (Go.Abs.Part.bool Bool.true Bool.true))), ps) ∧ AllQ ps := ⟨_, squares_long_r l, AllP.all h1⟩

theorem squares_posZ_r (l : List Int) : runF Try.prog FD gamZ 200 Try.f4 [.one (.words .u8 l)] [.is false, .is true, .is false, .is true, .is true, .is true, .is false, .is false] =
    some ((Go.Abs.AV.v (Go.Abs.A0.one (Go.Abs.Part.bool Bool.true (!Bool.false)))), [((decide ((((List.length l) : Nat) : Int) > (400 : Int))) = Bool.false), ((List.length l) ≤ (281474976710656 : Nat)), (Go.Num.InB l), ((List.length l) ≤ (9223372036854775807 : Nat)), ((Go.Num.hasSq ((Go.Num.be l) * (Go.Num.be l))) = Bool.true), ((!(decide (((if ((Go.Num.hasSq ((Go.Num.be l) * (Go.Num.be l))) = Bool.true) then (Go.Num.sqOf ((Go.Num.be l) * (Go.Num.be l))) else (0 : Int)) % (Go.Num.Fld.m Go.Num.fld)) = ((Go.Num.be l) % (Go.Num.Fld.m Go.Num.fld))))) = Bool.false), (Go.Abs.EqT Go.Proofs.Try.prog (27 : Nat)), ((Go.Num.hasSq (Go.Num.be l)) = Bool.true), ((Go.Num.hasSq ((0 : Int) - (Go.Num.be l))) = Bool.true), ((decide (((Go.Num.be l) % (Go.Num.Fld.m Go.Num.fld)) = ((0 : Int) % (Go.Num.Fld.m Go.Num.fld)))) = Bool.true), ((decide ((((Go.Num.be l) % (Go.Num.Fld.m Go.Num.fld)) % (2 : Int)) = (1 : Int))) = Bool.false), ((decide ((((0 : Int) - (Go.Num.be l)) % (Go.Num.Fld.m Go.Num.fld)) < ((Go.Num.be l) % (Go.Num.Fld.m Go.Num.fld)))) = Bool.false)]) := by kernel_rfl
theorem squares_posZ (l : List Int)
    (h1 : ((decide ((((List.length l) : Nat) : Int) > (400 : Int))) = Bool.false))
    (h2 : ((List.length l) ≤ (281474976710656 : Nat)))
    (h3 : (Go.Num.InB l))
    (h4 : ((List.length l) ≤ (9223372036854775807 : Nat)))
    (h5 : ((Go.Num.hasSq ((Go.Num.be l) * (Go.Num.be l))) = Bool.true))
    (h6 : ((!(decide (((if ((Go.Num.hasSq ((Go.Num.be l) * (Go.Num.be l))) = Bool.true) then (Go.Num.sqOf ((Go.Num.be l) * (Go.Num.be l))) else (0 : Int)) % (Go.Num.Fld.m Go.Num.fld)) = ((Go.Num.be l) % (Go.Num.Fld.m Go.Num.fld))))) = Bool.false))
    (h7 : (Go.Abs.EqT Go.Proofs.Try.prog (27 : Nat)))
    (h8 : ((Go.Num.hasSq (Go.Num.be l)) = Bool.true))
    (h9 : ((Go.Num.hasSq ((0 : Int) - (Go.Num.be l))) = Bool.true))
    (h10 : ((decide (((Go.Num.be l) % (Go.Num.Fld.m Go.Num.fld)) = ((0 : Int) % (Go.Num.Fld.m Go.Num.fld)))) = Bool.true))
    (h11 : ((decide ((((Go.Num.be l) % (Go.Num.Fld.m Go.Num.fld)) % (2 : Int)) = (1 : Int))) = Bool.false))
    (h12 : ((decide ((((0 : Int) - (Go.Num.be l)) % (Go.Num.Fld.m Go.Num.fld)) < ((Go.Num.be l) % (Go.Num.Fld.m Go.Num.fld)))) = Bool.false)) :
    ∃ ps, runF Try.prog FD gamZ 200 Try.f4 [.one (.words .u8 l)] [.is false, .is true, .is false, .is true, .is true, .is true, .is false, .is false] = some ((Go.Abs.AV.v (Go.Abs.A0.one (Go.Abs.Part.bool Bool.true (!Bool.false)))), ps) ∧ AllQ ps := ⟨_, squares_posZ_r l, AllP.all ⟨h1, h2, h3, h4, h5, h6, h7, h8, h9, h10, h11, h12⟩⟩

theorem squares_negZ_r (l : List Int) : runF Try.prog FD gamZ 200 Try.f4 [.one (.words .u8 l)] [.is false, .is true, .is true, .is false, .is true, .is true, .is true, .is false, .is false] =
    some ((Go.Abs.AV.v (Go.Abs.A0.one (Go.Abs.Part.bool Bool.true (!Bool.false)))), [((decide ((((List.length l) : Nat) : Int) > (400 : Int))) = Bool.false), ((List.length l) ≤ (281474976710656 : Nat)), (Go.Num.InB l), ((List.length l) ≤ (9223372036854775807 : Nat)), ((Go.Num.hasSq ((Go.Num.be l) * (Go.Num.be l))) = Bool.true), ((!(decide (((if ((Go.Num.hasSq ((Go.Num.be l) * (Go.Num.be l))) = Bool.true) then (Go.Num.sqOf ((Go.Num.be l) * (Go.Num.be l))) else (0 : Int)) % (Go.Num.Fld.m Go.Num.fld)) = ((Go.Num.be l) % (Go.Num.Fld.m Go.Num.fld))))) = Bool.true), (Go.Abs.EqT Go.Proofs.Try.prog (27 : Nat)), ((!(decide (((if ((Go.Num.hasSq ((Go.Num.be l) * (Go.Num.be l))) = Bool.true) then (Go.Num.sqOf ((Go.Num.be l) * (Go.Num.be l))) else (0 : Int)) % (Go.Num.Fld.m Go.Num.fld)) = (((0 : Int) - (Go.Num.be l)) % (Go.Num.Fld.m Go.Num.fld))))) = Bool.false), (Go.Abs.EqT Go.Proofs.Try.prog (27 : Nat)), ((Go.Num.hasSq (Go.Num.be l)) = Bool.true), ((Go.Num.hasSq ((0 : Int) - (Go.Num.be l))) = Bool.true), ((decide (((Go.Num.be l) % (Go.Num.Fld.m Go.Num.fld)) = ((0 : Int) % (Go.Num.Fld.m Go.Num.fld)))) = Bool.true), ((decide ((((Go.Num.be l) % (Go.Num.Fld.m Go.Num.fld)) % (2 : Int)) = (1 : Int))) = Bool.false), ((decide ((((0 : Int) - (Go.Num.be l)) % (Go.Num.Fld.m Go.Num.fld)) < ((Go.Num.be l) % (Go.Num.Fld.m Go.Num.fld)))) = Bool.false)]) := by kernel_rfl
theorem squares_negZ (l : List Int)
    (h1 : ((decide ((((List.length l) : Nat) : Int) > (400 : Int))) = Bool.false))
    (h2 : ((List.length l) ≤ (281474976710656 : Nat)))
    (h3 : (Go.Num.InB l))
    (h4 : ((List.length l) ≤ (9223372036854775807 : Nat)))
    (h5 : ((Go.Num.hasSq ((Go.Num.be l) * (Go.Num.be l))) = Bool.true))
    (h6 : ((!(decide (((if ((Go.Num.hasSq ((Go.Num.be l) * (Go.Num.be l))) = Bool.true) then (Go.Num.sqOf ((Go.Num.be l) * (Go.Num.be l))) else (0 : Int)) % (Go.Num.Fld.m Go.Num.fld)) = ((Go.Num.be l) % (Go.Num.Fld.m Go.Num.fld))))) = Bool.true))
    (h7 : (Go.Abs.EqT Go.Proofs.Try.prog (27 : Nat)))
    (h8 : ((!(decide (((if ((Go.Num.hasSq ((Go.Num.be l) * (Go.Num.be l))) = Bool.true) then (Go.Num.sqOf ((Go.Num.be l) * (Go.Num.be l))) else (0 : Int)) % (Go.Num.Fld.m Go.Num.fld)) = (((0 : Int) - (Go.Num.be l)) % (Go.Num.Fld.m Go.Num.fld))))) = Bool.false))
    (h9 : ((Go.Num.hasSq (Go.Num.be l)) = Bool.true))
    (h10 : ((Go.Num.hasSq ((0 : Int) - (Go.Num.be l))) = Bool.true))
    (h11 : ((decide (((Go.Num.be l) % (Go.Num.Fld.m Go.Num.fld)) = ((0 : Int) % (Go.Num.Fld.m Go.Num.fld)))) = Bool.true))
    (h12 : ((decide ((((Go.Num.be l) % (Go.Num.Fld.m Go.Num.fld)) % (2 : Int)) = (1 : Int))) = Bool.false))
    (h13 : ((decide ((((0 : Int) - (Go.Num.be l)) % (Go.Num.Fld.m Go.Num.fld)) < ((Go.Num.be l) % (Go.Num.Fld.m Go.Num.fld)))) = Bool.false)) :
    ∃ ps, runF Try.prog FD gamZ 200 Try.f4 [.one (.words .u8 l)] [.is false, .is true, .is true, .is false, .is true, .is true, .is true, .is false, .is false] = some ((Go.Abs.AV.v (Go.Abs.A0.one (Go.Abs.Part.bool Bool.true (!Bool.false)))), ps) ∧ AllQ ps := ⟨_, squares_negZ_r l, AllP.all ⟨h1, h2, h3, h4, h5, h6, h7, h8, h7, h9, h10, h11, h12, h13⟩⟩

theorem squares_pos_r (l : List Int) : runF Try.prog FD gamZ 200 Try.f4 [.one (.words .u8 l)] [.is false, .is true, .is false, .keep, .keep, .keep, .keep, .is false, .keep, .keep, .is true, .keep, .keep, .is true, .keep, .keep, .is true] =
    some ((Go.Abs.AV.v (Go.Abs.A0.one (Go.Abs.Part.bool Bool.true Bool.true))), [((decide ((((List.length l) : Nat) : Int) > (400 : Int))) = Bool.false), ((List.length l) ≤ (281474976710656 : Nat)), (Go.Num.InB l), ((List.length l) ≤ (9223372036854775807 : Nat)), ((Go.Num.hasSq ((Go.Num.be l) * (Go.Num.be l))) = Bool.true), ((!(decide (((if ((Go.Num.hasSq ((Go.Num.be l) * (Go.Num.be l))) = Bool.true) then (Go.Num.sqOf ((Go.Num.be l) * (Go.Num.be l))) else (0 : Int)) % (Go.Num.Fld.m Go.Num.fld)) = ((Go.Num.be l) % (Go.Num.Fld.m Go.Num.fld))))) = Bool.false), (Go.Abs.EqT Go.Proofs.Try.prog (27 : Nat)), ((decide (((Go.Num.be l) % (Go.Num.Fld.m Go.Num.fld)) = ((0 : Int) % (Go.Num.Fld.m Go.Num.fld)))) = Bool.false), ((!((Go.Num.hasSq (Go.Num.be l)) == (Go.Num.hasSq ((0 : Int) - (Go.Num.be l))))) = Bool.true), ((!((decide ((((Go.Num.be l) % (Go.Num.Fld.m Go.Num.fld)) % (2 : Int)) = (1 : Int))) == (decide (((((0 : Int) - (Go.Num.be l)) % (Go.Num.Fld.m Go.Num.fld)) % (2 : Int)) = (1 : Int))))) = Bool.true), ((!((decide ((((0 : Int) - (Go.Num.be l)) % (Go.Num.Fld.m Go.Num.fld)) < ((Go.Num.be l) % (Go.Num.Fld.m Go.Num.fld)))) == (decide ((((0 : Int) - ((0 : Int) - (Go.Num.be l))) % (Go.Num.Fld.m Go.Num.fld)) < (((0 : Int) - (Go.Num.be l)) % (Go.Num.Fld.m Go.Num.fld)))))) = Bool.true)]) := by kernel_rfl
theorem squares_pos (l : List Int)
    (h1 : ((decide ((((List.length l) : Nat) : Int) > (400 : Int))) = Bool.false))
    (h2 : ((List.length l) ≤ (281474976710656 : Nat)))
    (h3 : (Go.Num.InB l))
    (h4 : ((List.length l) ≤ (9223372036854775807 : Nat)))
    (h5 : ((Go.Num.hasSq ((Go.Num.be l) * (Go.Num.be l))) = Bool.true))
    (h6 : ((!(decide (((if ((Go.Num.hasSq ((Go.Num.be l) * (Go.Num.be l))) = Bool.true) then (Go.Num.sqOf ((Go.Num.be l) * (Go.Num.be l))) else (0 : Int)) % (Go.Num.Fld.m Go.Num.fld)) = ((Go.Num.be l) % (Go.Num.Fld.m Go.Num.fld))))) = Bool.false))
    (h7 : (Go.Abs.EqT Go.Proofs.Try.prog (27 : Nat)))
    (h8 : ((decide (((Go.Num.be l) % (Go.Num.Fld.m Go.Num.fld)) = ((0 : Int) % (Go.Num.Fld.m Go.Num.fld)))) = Bool.false))
    (h9 : ((!((Go.Num.hasSq (Go.Num.be l)) == (Go.Num.hasSq ((0 : Int) - (Go.Num.be l))))) = Bool.true))
    (h10 : ((!((decide ((((Go.Num.be l) % (Go.Num.Fld.m Go.Num.fld)) % (2 : Int)) = (1 : Int))) == (decide (((((0 : Int) - (Go.Num.be l)) % (Go.Num.Fld.m Go.Num.fld)) % (2 : Int)) = (1 : Int))))) = Bool.true))
    (h11 : ((!((decide ((((0 : Int) - (Go.Num.be l)) % (Go.Num.Fld.m Go.Num.fld)) < ((Go.Num.be l) % (Go.Num.Fld.m Go.Num.fld)))) == (decide ((((0 : Int) - ((0 : Int) - (Go.Num.be l))) % (Go.Num.Fld.m Go.Num.fld)) < (((0 : Int) - (Go.Num.be l)) % (Go.Num.Fld.m Go.Num.fld)))))) = Bool.true)) :
    ∃ ps, runF Try.prog FD gamZ 200 Try.f4 [.one (.words .u8 l)] [.is false, .is true, .is false, .keep, .keep, .keep, .keep, .is false, .keep, .keep, .is true, .keep, .keep, .is true, .keep, .keep, .is true] = some ((Go.Abs.AV.v (Go.Abs.A0.one (Go.Abs.Part.bool Bool.true Bool.true))), ps) ∧ AllQ ps := ⟨_, squares_pos_r l, AllP.all ⟨h1, h2, h3, h4, h5, h6, h7, h8, h9, h10, h11⟩⟩

theorem squares_neg_r (l : List Int) : runF Try.prog FD gamZ 200 Try.f4 [.one (.words .u8 l)] [.is false, .is true, .is true, .is false, .keep, .keep, .keep, .keep, .is false, .keep, .keep, .is true, .keep, .keep, .is true, .keep, .keep, .is true] =
    some ((Go.Abs.AV.v (Go.Abs.A0.one (Go.Abs.Part.bool Bool.true Bool.true))), [((decide ((((List.length l) : Nat) : Int) > (400 : Int))) = Bool.false), ((List.length l) ≤ (281474976710656 : Nat)), (Go.Num.InB l), ((List.length l) ≤ (9223372036854775807 : Nat)), ((Go.Num.hasSq ((Go.Num.be l) * (Go.Num.be l))) = Bool.true), ((!(decide (((if ((Go.Num.hasSq ((Go.Num.be l) * (Go.Num.be l))) = Bool.true) then (Go.Num.sqOf ((Go.Num.be l) * (Go.Num.be l))) else (0 : Int)) % (Go.Num.Fld.m Go.Num.fld)) = ((Go.Num.be l) % (Go.Num.Fld.m Go.Num.fld))))) = Bool.true), (Go.Abs.EqT Go.Proofs.Try.prog (27 : Nat)), ((!(decide (((if ((Go.Num.hasSq ((Go.Num.be l) * (Go.Num.be l))) = Bool.true) then (Go.Num.sqOf ((Go.Num.be l) * (Go.Num.be l))) else (0 : Int)) % (Go.Num.Fld.m Go.Num.fld)) = (((0 : Int) - (Go.Num.be l)) % (Go.Num.Fld.m Go.Num.fld))))) = Bool.false), (Go.Abs.EqT Go.Proofs.Try.prog (27 : Nat)), ((decide (((Go.Num.be l) % (Go.Num.Fld.m Go.Num.fld)) = ((0 : Int) % (Go.Num.Fld.m Go.Num.fld)))) = Bool.false), ((!((Go.Num.hasSq (Go.Num.be l)) == (Go.Num.hasSq ((0 : Int) - (Go.Num.be l))))) = Bool.true), ((!((decide ((((Go.Num.be l) % (Go.Num.Fld.m Go.Num.fld)) % (2 : Int)) = (1 : Int))) == (decide (((((0 : Int) - (Go.Num.be l)) % (Go.Num.Fld.m Go.Num.fld)) % (2 : Int)) = (1 : Int))))) = Bool.true), ((!((decide ((((0 : Int) - (Go.Num.be l)) % (Go.Num.Fld.m Go.Num.fld)) < ((Go.Num.be l) % (Go.Num.Fld.m Go.Num.fld)))) == (decide ((((0 : Int) - ((0 : Int) - (Go.Num.be l))) % (Go.Num.Fld.m Go.Num.fld)) < (((0 : Int) - (Go.Num.be l)) % (Go.Num.Fld.m Go.Num.fld)))))) = Bool.true)]) := by kernel_rfl
theorem squares_neg (l : List Int)
    (h1 : ((decide ((((List.length l) : Nat) : Int) > (400 : Int))) = Bool.false))
    (h2 : ((List.length l) ≤ (281474976710656 : Nat)))
    (h3 : (Go.Num.InB l))
    (h4 : ((List.length l) ≤ (9223372036854775807 : Nat)))
    (h5 : ((Go.Num.hasSq ((Go.Num.be l) * (Go.Num.be l))) = Bool.true))
    (h6 : ((!(decide (((if ((Go.Num.hasSq ((Go.Num.be l) * (Go.Num.be l))) = Bool.true) then (Go.Num.sqOf ((Go.Num.be l) * (Go.Num.be l))) else (0 : Int)) % (Go.Num.Fld.m Go.Num.fld)) = ((Go.Num.be l) % (Go.Num.Fld.m Go.Num.fld))))) = Bool.true))
    (h7 : (Go.Abs.EqT Go.Proofs.Try.prog (27 : Nat)))
    (h8 : ((!(decide (((if ((Go.Num.hasSq ((Go.Num.be l) * (Go.Num.be l))) = Bool.true) then (Go.Num.sqOf ((Go.Num.be l) * (Go.Num.be l))) else (0 : Int)) % (Go.Num.Fld.m Go.Num.fld)) = (((0 : Int) - (Go.Num.be l)) % (Go.Num.Fld.m Go.Num.fld))))) = Bool.false))
    (h9 : ((decide (((Go.Num.be l) % (Go.Num.Fld.m Go.Num.fld)) = ((0 : Int) % (Go.Num.Fld.m Go.Num.fld)))) = Bool.false))
    (h10 : ((!((Go.Num.hasSq (Go.Num.be l)) == (Go.Num.hasSq ((0 : Int) - (Go.Num.be l))))) = Bool.true))
    (h11 : ((!((decide ((((Go.Num.be l) % (Go.Num.Fld.m Go.Num.fld)) % (2 : Int)) = (1 : Int))) == (decide (((((0 : Int) - (Go.Num.be l)) % (Go.Num.Fld.m Go.Num.fld)) % (2 : Int)) = (1 : Int))))) = Bool.true))
    (h12 : ((!((decide ((((0 : Int) - (Go.Num.be l)) % (Go.Num.Fld.m Go.Num.fld)) < ((Go.Num.be l) % (Go.Num.Fld.m Go.Num.fld)))) == (decide ((((0 : Int) - ((0 : Int) - (Go.Num.be l))) % (Go.Num.Fld.m Go.Num.fld)) < (((0 : Int) - (Go.Num.be l)) % (Go.Num.Fld.m Go.Num.fld)))))) = Bool.true)) :
    ∃ ps, runF Try.prog FD gamZ 200 Try.f4 [.one (.words .u8 l)] [.is false, .is true, .is true, .is false, .keep, .keep, .keep, .keep, .is false, .keep, .keep, .is true, .keep, .keep, .is true, .keep, .keep, .is true] = some ((Go.Abs.AV.v (Go.Abs.A0.one (Go.Abs.Part.bool Bool.true Bool.true))), ps) ∧ AllQ ps := ⟨_, squares_neg_r l, AllP.all ⟨h1, h2, h3, h4, h5, h6, h7, h8, h7, h9, h10, h11, h12⟩⟩

theorem lawSquares {l : List Int} (hb : InB l) (_hl : l.length ≤ 140737488351232) : LawOK Try.f4 [.one (.words .u8 l)] := by
  by_cases h : (l.length : Int) > 400
  · obtain ⟨ps, h1, h2⟩ := squares_long l (decide_eq_true h)
    exact ⟨gamZ, gamZ_ok, _, ps, h1, h2⟩
  have hs := hasSq_mul_self (be l)
  have yes : ∀ {x : Int}, sqOf (be l * be l) % fld.m = x % fld.m → (!(decide ((if hasSq (be l * be l) = true then sqOf (be l * be l) else 0) % fld.m = x % fld.m))) = false := by
    intro x hx
    rw [if_pos hs, decide_eq_true hx]
    rfl
  have no : ∀ {x : Int}, ¬ sqOf (be l * be l) % fld.m = x % fld.m → (!(decide ((if hasSq (be l * be l) = true then sqOf (be l * be l) else 0) % fld.m = x % fld.m))) = true := by
    intro x hx
    rw [if_pos hs, decide_eq_false hx]
    rfl
  by_cases hz : be l % fld.m = 0
  · have hz2 : (0 - be l) % fld.m = 0 := by
      rw [Int.sub_emod, hz]
      rfl
    have z0 : decide (be l % fld.m = 0 % fld.m) = true := decide_eq_true (by rw [hz, Int.zero_emod])
    have z1 : decide (be l % fld.m % 2 = 1) = false := decide_eq_false (by rw [hz]; decide)
    have z2 : decide ((0 - be l) % fld.m < be l % fld.m) = false := decide_eq_false (by rw [hz, hz2]; decide)
    by_cases hp : sqOf (be l * be l) % fld.m = be l % fld.m
    · obtain ⟨ps, h1, h2⟩ := squares_posZ l (decide_eq_false h) (by omega) hb (by omega) hs (yes hp) el_eqT (hasSq_zero hz) (hasSq_zero hz2) z0 z1 z2
      exact ⟨gamZ, gamZ_ok, _, ps, h1, h2⟩
    · have hn : sqOf (be l * be l) % fld.m = (0 - be l) % fld.m := (root_pm (be l)).resolve_left hp
      obtain ⟨ps, h1, h2⟩ := squares_negZ l (decide_eq_false h) (by omega) hb (by omega) hs (no hp) el_eqT (yes hn) (hasSq_zero hz) (hasSq_zero hz2) z0 z1 z2
      exact ⟨gamZ, gamZ_ok, _, ps, h1, h2⟩
  · have z0 : decide (be l % fld.m = 0 % fld.m) = false := decide_eq_false (by rw [Int.zero_emod]; exact hz)
    by_cases hp : sqOf (be l * be l) % fld.m = be l % fld.m
    · obtain ⟨ps, h1, h2⟩ := squares_pos l (decide_eq_false h) (by omega) hb (by omega) hs (yes hp) el_eqT z0 (one_root hz) (odd_neg hz) (large_neg hz)
      exact ⟨gamZ, gamZ_ok, _, ps, h1, h2⟩
    · have hn : sqOf (be l * be l) % fld.m = (0 - be l) % fld.m := (root_pm (be l)).resolve_left hp
      obtain ⟨ps, h1, h2⟩ := squares_neg l (decide_eq_false h) (by omega) hb (by omega) hs (no hp) el_eqT (yes hn) z0 (one_root hz) (odd_neg hz) (large_neg hz)
      exact ⟨gamZ, gamZ_ok, _, ps, h1, h2⟩

end Go.Num

/- FpRules: the rules of reckoning. -/
import Derived.Test.YtnjcnfaopdgjgaaLawB
namespace Go.Num
open Go.Abs Go.Proofs Go.Shelf Go.Alg

theorem rules_longA_r (l m n : List Int) : runF Try.prog FD gamZ 200 Try.f3 [.one (.words .u8 l), .one (.words .u8 m), .one (.words .u8 n)] [.is true] =
    some ((Go.Abs.AV.v (Go.Abs.A0.one (Go.Abs.Part.bool Bool.true Bool.true))), [((decide ((((List.length l) : Nat) : Int) > (400 : Int))) = Bool.true)]) := by kernel_rfl
theorem rules_longA (l m n : List Int)
    (h1 : ((decide ((((List.length l) : Nat) : Int) > (400 : Int))) = Bool.true)) :
    ∃ ps, runF Try.prog FD gamZ 200 Try.f3 [.one (.words .u8 l), .one (.words .u8 m), .one (.words .u8 n)] [.is true] = some ((Go.Abs.AV.v (Go.Abs.A0.one (Go.Abs.Part.bool Bool.true Bool.true))), ps) ∧ AllQ ps := ⟨_, rules_longA_r l m n, AllP.all h1⟩

theorem rules_longB_r (l m n : List Int) : runF Try.prog FD gamZ 200 Try.f3 [.one (.words .u8 l), .one (.words .u8 m), .one (.words .u8 n)] [.is false, .is true] =
    some ((Go.Abs.AV.v (Go.Abs.A0.one (Go.Abs.Part.bool Bool.true Bool.true))), [((decide ((((List.length l) : Nat) : Int) > (400 : Int))) = Bool.false), ((decide ((((List.length m) : Nat) : Int) > (400 : Int))) = Bool.true)]) := by kernel_rfl
theorem rules_longB (l m n : List Int)
    (h1 : ((decide ((((List.length l) : Nat) : Int) > (400 : Int))) = Bool.false))
    (h2 : ((decide ((((List.length m) : Nat) : Int) > (400 : Int))) = Bool.true)) :
    ∃ ps, runF Try.prog FD gamZ 200 Try.f3 [.one (.words .u8 l), .one (.words .u8 m), .one (.words .u8 n)] [.is false, .is true] = some ((Go.Abs.AV.v (Go.Abs.A0.one (Go.Abs.Part.bool Bool.true Bool.true))), ps) ∧ AllQ ps := ⟨_, rules_longB_r l m n, AllP.all ⟨h1, h2⟩⟩

theorem rules_longC_r (l m n : List Int) : runF Try.prog FD gamZ 200 Try.f3 [.one (.words .u8 l), .one (.words .u8 m), .one (.words .u8 n)] [.is false, .is false, .is true] =
    some ((Go.Abs.AV.v (Go.Abs.A0.one (Go.Abs.Part.bool Bool.true Bool.true))), [((decide ((((List.length l) : Nat) : Int) > (400 : Int))) = Bool.false), ((decide ((((List.length m) : Nat) : Int) > (400 : Int))) = Bool.false), ((decide ((((List.length n) : Nat) : Int) > (400 : Int))) = Bool.true)]) := by kernel_rfl
theorem rules_longC (l m n : List Int)
    (h1 : ((decide ((((List.length l) : Nat) : Int) > (400 : Int))) = Bool.false))
    (h2 : ((decide ((((List.length m) : Nat) : Int) > (400 : Int))) = Bool.false))
    (h3 : ((decide ((((List.length n) : Nat) : Int) > (400 : Int))) = Bool.true)) :
    ∃ ps, runF Try.prog FD gamZ 200 Try.f3 [.one (.words .u8 l), .one (.words .u8 m), .one (.words .u8 n)] [.is false, .is false, .is true] = some ((Go.Abs.AV.v (Go.Abs.A0.one (Go.Abs.Part.bool Bool.true Bool.true))), ps) ∧ AllQ ps := ⟨_, rules_longC_r l m n, AllP.all ⟨h1, h2, h3⟩⟩

theorem rules_run_r (l m n : List Int) : runF Try.prog FD gamZ 200 Try.f3 [.one (.words .u8 l), .one (.words .u8 m), .one (.words .u8 n)] [.is false, .is false, .is false, .is false, .is false, .is false, .is false, .is true, .is true, .is true, .is true] =
    some ((Go.Abs.AV.v (Go.Abs.A0.one (Go.Abs.Part.bool Bool.true Bool.true))), [((decide ((((List.length l) : Nat) : Int) > (400 : Int))) = Bool.false), ((decide ((((List.length m) : Nat) : Int) > (400 : Int))) = Bool.false), ((decide ((((List.length n) : Nat) : Int) > (400 : Int))) = Bool.false), ((List.length l) ≤ (281474976710656 : Nat)), (Go.Num.InB l), ((List.length l) ≤ (9223372036854775807 : Nat)), ((List.length m) ≤ (281474976710656 : Nat)), (Go.Num.InB m), ((List.length m) ≤ (9223372036854775807 : Nat)), ((List.length n) ≤ (281474976710656 : Nat)), (Go.Num.InB n), ((List.length n) ≤ (9223372036854775807 : Nat)), ((!(decide ((((Go.Num.be l) + (Go.Num.be m)) % (Go.Num.Fld.m Go.Num.fld)) = (((Go.Num.be m) + (Go.Num.be l)) % (Go.Num.Fld.m Go.Num.fld))))) = Bool.false), (Go.Abs.EqT Go.Proofs.Try.prog (27 : Nat)), ((!(decide ((((Go.Num.be l) * (Go.Num.be m)) % (Go.Num.Fld.m Go.Num.fld)) = (((Go.Num.be m) * (Go.Num.be l)) % (Go.Num.Fld.m Go.Num.fld))))) = Bool.false), (Go.Abs.EqT Go.Proofs.Try.prog (27 : Nat)), ((!(decide (((((Go.Num.be l) + (Go.Num.be m)) + (Go.Num.be n)) % (Go.Num.Fld.m Go.Num.fld)) = (((Go.Num.be l) + ((Go.Num.be m) + (Go.Num.be n))) % (Go.Num.Fld.m Go.Num.fld))))) = Bool.false), (Go.Abs.EqT Go.Proofs.Try.prog (27 : Nat)), ((!(decide (((((Go.Num.be l) * (Go.Num.be m)) * (Go.Num.be n)) % (Go.Num.Fld.m Go.Num.fld)) = (((Go.Num.be l) * ((Go.Num.be m) * (Go.Num.be n))) % (Go.Num.Fld.m Go.Num.fld))))) = Bool.false), (Go.Abs.EqT Go.Proofs.Try.prog (27 : Nat)), ((decide (((((Go.Num.be l) + (Go.Num.be m)) * (Go.Num.be n)) % (Go.Num.Fld.m Go.Num.fld)) = ((((Go.Num.be l) * (Go.Num.be n)) + ((Go.Num.be m) * (Go.Num.be n))) % (Go.Num.Fld.m Go.Num.fld)))) = Bool.true), (Go.Abs.EqT Go.Proofs.Try.prog (27 : Nat)), ((decide (((((Go.Num.be l) - (Go.Num.be m)) + (Go.Num.be m)) % (Go.Num.Fld.m Go.Num.fld)) = ((Go.Num.be l) % (Go.Num.Fld.m Go.Num.fld)))) = Bool.true), (Go.Abs.EqT Go.Proofs.Try.prog (27 : Nat)), ((decide ((((Go.Num.be l) + ((0 : Int) - (Go.Num.be l))) % (Go.Num.Fld.m Go.Num.fld)) = ((0 : Int) % (Go.Num.Fld.m Go.Num.fld)))) = Bool.true), ((decide ((((Go.Num.be l) * (Go.Num.be l)) % (Go.Num.Fld.m Go.Num.fld)) = (((Go.Num.be l) * (Go.Num.be l)) % (Go.Num.Fld.m Go.Num.fld)))) = Bool.true), (Go.Abs.EqT Go.Proofs.Try.prog (27 : Nat))]) := by kernel_rfl
theorem rules_run (l m n : List Int)
    (h1 : ((decide ((((List.length l) : Nat) : Int) > (400 : Int))) = Bool.false))
    (h2 : ((decide ((((List.length m) : Nat) : Int) > (400 : Int))) = Bool.false))
    (h3 : ((decide ((((List.length n) : Nat) : Int) > (400 : Int))) = Bool.false))
    (h4 : ((List.length l) ≤ (281474976710656 : Nat)))
    (h5 : (Go.Num.InB l))
    (h6 : ((List.length l) ≤ (9223372036854775807 : Nat)))
    (h7 : ((List.length m) ≤ (281474976710656 : Nat)))
    (h8 : (Go.Num.InB m))
    (h9 : ((List.length m) ≤ (9223372036854775807 : Nat)))
    (h10 : ((List.length n) ≤ (281474976710656 : Nat)))
    (h11 : (Go.Num.InB n))
    (h12 : ((List.length n) ≤ (9223372036854775807 : Nat)))
    (h13 : ((!(decide ((((Go.Num.be l) + (Go.Num.be m)) % (Go.Num.Fld.m Go.Num.fld)) = (((Go.Num.be m) + (Go.Num.be l)) % (Go.Num.Fld.m Go.Num.fld))))) = Bool.false))
    (h14 : (Go.Abs.EqT Go.Proofs.Try.prog (27 : Nat)))
    (h15 : ((!(decide ((((Go.Num.be l) * (Go.Num.be m)) % (Go.Num.Fld.m Go.Num.fld)) = (((Go.Num.be m) * (Go.Num.be l)) % (Go.Num.Fld.m Go.Num.fld))))) = Bool.false))
    (h16 : ((!(decide (((((Go.Num.be l) + (Go.Num.be m)) + (Go.Num.be n)) % (Go.Num.Fld.m Go.Num.fld)) = (((Go.Num.be l) + ((Go.Num.be m) + (Go.Num.be n))) % (Go.Num.Fld.m Go.Num.fld))))) = Bool.false))
    (h17 : ((!(decide (((((Go.Num.be l) * (Go.Num.be m)) * (Go.Num.be n)) % (Go.Num.Fld.m Go.Num.fld)) = (((Go.Num.be l) * ((Go.Num.be m) * (Go.Num.be n))) % (Go.Num.Fld.m Go.Num.fld))))) = Bool.false))
    (h18 : ((decide (((((Go.Num.be l) + (Go.Num.be m)) * (Go.Num.be n)) % (Go.Num.Fld.m Go.Num.fld)) = ((((Go.Num.be l) * (Go.Num.be n)) + ((Go.Num.be m) * (Go.Num.be n))) % (Go.Num.Fld.m Go.Num.fld)))) = Bool.true))
    (h19 : ((decide (((((Go.Num.be l) - (Go.Num.be m)) + (Go.Num.be m)) % (Go.Num.Fld.m Go.Num.fld)) = ((Go.Num.be l) % (Go.Num.Fld.m Go.Num.fld)))) = Bool.true))
    (h20 : ((decide ((((Go.Num.be l) + ((0 : Int) - (Go.Num.be l))) % (Go.Num.Fld.m Go.Num.fld)) = ((0 : Int) % (Go.Num.Fld.m Go.Num.fld)))) = Bool.true))
    (h21 : ((decide ((((Go.Num.be l) * (Go.Num.be l)) % (Go.Num.Fld.m Go.Num.fld)) = (((Go.Num.be l) * (Go.Num.be l)) % (Go.Num.Fld.m Go.Num.fld)))) = Bool.true)) :
    ∃ ps, runF Try.prog FD gamZ 200 Try.f3 [.one (.words .u8 l), .one (.words .u8 m), .one (.words .u8 n)] [.is false, .is false, .is false, .is false, .is false, .is false, .is false, .is true, .is true, .is true, .is true] = some ((Go.Abs.AV.v (Go.Abs.A0.one (Go.Abs.Part.bool Bool.true Bool.true))), ps) ∧ AllQ ps := ⟨_, rules_run_r l m n, AllP.all ⟨h1, h2, h3, h4, h5, h6, h7, h8, h9, h10, h11, h12, h13, h14, h15, h14, h16, h14, h17, h14, h18, h14, h19, h14, h20, h21, h14⟩⟩

theorem lawRules {l m n : List Int} (hb : InB l) (_hl : l.length ≤ 140737488351232) (hc : InB m) (_hm : m.length ≤ 140737488351232) (hd : InB n) (_hn : n.length ≤ 140737488351232) : LawOK Try.f3 [.one (.words .u8 l), .one (.words .u8 m), .one (.words .u8 n)] := by
  have no : ∀ {x y : Int}, x = y → (!(decide (x % fld.m = y % fld.m))) = false := fun h => by rw [h, decide_eq_true rfl]; rfl
  have yes : ∀ {x y : Int}, x = y → decide (x % fld.m = y % fld.m) = true := fun h => by rw [h, decide_eq_true rfl]
  by_cases h : (l.length : Int) > 400
  · obtain ⟨ps, h1, h2⟩ := rules_longA l m n (decide_eq_true h)
    exact ⟨gamZ, gamZ_ok, _, ps, h1, h2⟩
  by_cases k : (m.length : Int) > 400
  · obtain ⟨ps, h1, h2⟩ := rules_longB l m n (decide_eq_false h) (decide_eq_true k)
    exact ⟨gamZ, gamZ_ok, _, ps, h1, h2⟩
  by_cases j : (n.length : Int) > 400
  · obtain ⟨ps, h1, h2⟩ := rules_longC l m n (decide_eq_false h) (decide_eq_false k) (decide_eq_true j)
    exact ⟨gamZ, gamZ_ok, _, ps, h1, h2⟩
  obtain ⟨ps, h1, h2⟩ := rules_run l m n (decide_eq_false h) (decide_eq_false k) (decide_eq_false j) (by omega) hb (by omega) (by omega) hc (by omega) (by omega) hd (by omega)
    (no (Int.add_comm _ _)) el_eqT (no (Int.mul_comm _ _)) (no (Int.add_assoc _ _ _)) (no (Int.mul_assoc _ _ _)) (yes (Int.add_mul _ _ _)) (yes (by omega)) (yes (by omega)) (yes rfl)
  exact ⟨gamZ, gamZ_ok, _, ps, h1, h2⟩

end Go.Num

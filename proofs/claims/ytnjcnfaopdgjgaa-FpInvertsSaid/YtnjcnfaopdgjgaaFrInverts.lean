/- FrInverts: a number times its inverse is 1. -/
import Derived.Test.YtnjcnfaopdgjgaaLawB
namespace Go.Num
open Go.Abs Go.Proofs Go.Shelf Go.Alg

theorem inverts_longA_r (l m : List Int) : runF Try.prog FD gamZ 200 Try.f5 [.one (.words .u8 l), .one (.words .u8 m)] [.is true] =
    some ((Go.Abs.AV.v (Go.Abs.A0.one (Go.Abs.Part.bool Bool.true Bool.true))), [((decide ((((List.length l) : Nat) : Int) > (400 : Int))) = Bool.true)]) := by kernel_rfl
theorem inverts_longA (l m : List Int)
    (h1 : ((decide ((((List.length l) : Nat) : Int) > (400 : Int))) = Bool.true)) :
    ∃ ps, runF Try.prog FD gamZ 200 Try.f5 [.one (.words .u8 l), .one (.words .u8 m)] [.is true] = some ((Go.Abs.AV.v (Go.Abs.A0.one (Go.Abs.Part.bool Bool.true Bool.true))), ps) ∧ AllQ ps := ⟨_, inverts_longA_r l m, AllP.all h1⟩

theorem inverts_longB_r (l m : List Int) : runF Try.prog FD gamZ 200 Try.f5 [.one (.words .u8 l), .one (.words .u8 m)] [.is false, .is true] =
    some ((Go.Abs.AV.v (Go.Abs.A0.one (Go.Abs.Part.bool Bool.true Bool.true))), [((decide ((((List.length l) : Nat) : Int) > (400 : Int))) = Bool.false), ((decide ((((List.length m) : Nat) : Int) > (400 : Int))) = Bool.true)]) := by kernel_rfl
theorem inverts_longB (l m : List Int)
    (h1 : ((decide ((((List.length l) : Nat) : Int) > (400 : Int))) = Bool.false))
    (h2 : ((decide ((((List.length m) : Nat) : Int) > (400 : Int))) = Bool.true)) :
    ∃ ps, runF Try.prog FD gamZ 200 Try.f5 [.one (.words .u8 l), .one (.words .u8 m)] [.is false, .is true] = some ((Go.Abs.AV.v (Go.Abs.A0.one (Go.Abs.Part.bool Bool.true Bool.true))), ps) ∧ AllQ ps := ⟨_, inverts_longB_r l m, AllP.all ⟨h1, h2⟩⟩

theorem inverts_zero_r (l m : List Int) : runF Try.prog FD gamZ 200 Try.f5 [.one (.words .u8 l), .one (.words .u8 m)] [.is false, .is false, .is true, .is true, .is true] =
    some ((Go.Abs.AV.v (Go.Abs.A0.one (Go.Abs.Part.bool Bool.true Bool.true))), [((decide ((((List.length l) : Nat) : Int) > (400 : Int))) = Bool.false), ((decide ((((List.length m) : Nat) : Int) > (400 : Int))) = Bool.false), ((List.length l) ≤ (281474976710656 : Nat)), (Go.Num.InB l), ((List.length l) ≤ (9223372036854775807 : Nat)), ((List.length m) ≤ (281474976710656 : Nat)), (Go.Num.InB m), ((List.length m) ≤ (9223372036854775807 : Nat)), ((decide (((Go.Num.be l) % (Go.Num.Fld.m Go.Num.fld)) = ((0 : Int) % (Go.Num.Fld.m Go.Num.fld)))) = Bool.true), ((decide (((Go.Num.invOf (Go.Num.be l)) % (Go.Num.Fld.m Go.Num.fld)) = ((0 : Int) % (Go.Num.Fld.m Go.Num.fld)))) = Bool.true), ((decide (((Go.Num.be l) % (Go.Num.Fld.m Go.Num.fld)) = ((0 : Int) % (Go.Num.Fld.m Go.Num.fld)))) = Bool.true), (Go.Abs.EqT Go.Proofs.Try.prog (27 : Nat))]) := by kernel_rfl
theorem inverts_zero (l m : List Int)
    (h1 : ((decide ((((List.length l) : Nat) : Int) > (400 : Int))) = Bool.false))
    (h2 : ((decide ((((List.length m) : Nat) : Int) > (400 : Int))) = Bool.false))
    (h3 : ((List.length l) ≤ (281474976710656 : Nat)))
    (h4 : (Go.Num.InB l))
    (h5 : ((List.length l) ≤ (9223372036854775807 : Nat)))
    (h6 : ((List.length m) ≤ (281474976710656 : Nat)))
    (h7 : (Go.Num.InB m))
    (h8 : ((List.length m) ≤ (9223372036854775807 : Nat)))
    (h9 : ((decide (((Go.Num.be l) % (Go.Num.Fld.m Go.Num.fld)) = ((0 : Int) % (Go.Num.Fld.m Go.Num.fld)))) = Bool.true))
    (h10 : ((decide (((Go.Num.invOf (Go.Num.be l)) % (Go.Num.Fld.m Go.Num.fld)) = ((0 : Int) % (Go.Num.Fld.m Go.Num.fld)))) = Bool.true))
    (h11 : (Go.Abs.EqT Go.Proofs.Try.prog (27 : Nat))) :
    ∃ ps, runF Try.prog FD gamZ 200 Try.f5 [.one (.words .u8 l), .one (.words .u8 m)] [.is false, .is false, .is true, .is true, .is true] = some ((Go.Abs.AV.v (Go.Abs.A0.one (Go.Abs.Part.bool Bool.true Bool.true))), ps) ∧ AllQ ps := ⟨_, inverts_zero_r l m, AllP.all ⟨h1, h2, h3, h4, h5, h6, h7, h8, h9, h10, h9, h11⟩⟩

theorem inverts_zeroB_r (l m : List Int) : runF Try.prog FD gamZ 200 Try.f5 [.one (.words .u8 l), .one (.words .u8 m)] [.is false, .is false, .is false, .is false, .is false, .is true] =
    some ((Go.Abs.AV.v (Go.Abs.A0.one (Go.Abs.Part.bool Bool.true Bool.true))), [((decide ((((List.length l) : Nat) : Int) > (400 : Int))) = Bool.false), ((decide ((((List.length m) : Nat) : Int) > (400 : Int))) = Bool.false), ((List.length l) ≤ (281474976710656 : Nat)), (Go.Num.InB l), ((List.length l) ≤ (9223372036854775807 : Nat)), ((List.length m) ≤ (281474976710656 : Nat)), (Go.Num.InB m), ((List.length m) ≤ (9223372036854775807 : Nat)), ((decide (((Go.Num.be l) % (Go.Num.Fld.m Go.Num.fld)) = ((0 : Int) % (Go.Num.Fld.m Go.Num.fld)))) = Bool.false), (Go.Num.Rng (1 : Int)), ((!(decide ((((Go.Num.be l) * (Go.Num.invOf (Go.Num.be l))) % (Go.Num.Fld.m Go.Num.fld)) = ((1 : Int) % (Go.Num.Fld.m Go.Num.fld))))) = Bool.false), (Go.Abs.EqT Go.Proofs.Try.prog (27 : Nat)), ((!(decide (((Go.Num.invOf (Go.Num.invOf (Go.Num.be l))) % (Go.Num.Fld.m Go.Num.fld)) = ((Go.Num.be l) % (Go.Num.Fld.m Go.Num.fld))))) = Bool.false), (Go.Abs.EqT Go.Proofs.Try.prog (27 : Nat)), ((decide (((Go.Num.be m) % (Go.Num.Fld.m Go.Num.fld)) = ((0 : Int) % (Go.Num.Fld.m Go.Num.fld)))) = Bool.true)]) := by kernel_rfl
theorem inverts_zeroB (l m : List Int)
    (h1 : ((decide ((((List.length l) : Nat) : Int) > (400 : Int))) = Bool.false))
    (h2 : ((decide ((((List.length m) : Nat) : Int) > (400 : Int))) = Bool.false))
    (h3 : ((List.length l) ≤ (281474976710656 : Nat)))
    (h4 : (Go.Num.InB l))
    (h5 : ((List.length l) ≤ (9223372036854775807 : Nat)))
    (h6 : ((List.length m) ≤ (281474976710656 : Nat)))
    (h7 : (Go.Num.InB m))
    (h8 : ((List.length m) ≤ (9223372036854775807 : Nat)))
    (h9 : ((decide (((Go.Num.be l) % (Go.Num.Fld.m Go.Num.fld)) = ((0 : Int) % (Go.Num.Fld.m Go.Num.fld)))) = Bool.false))
    (h10 : ((!(decide ((((Go.Num.be l) * (Go.Num.invOf (Go.Num.be l))) % (Go.Num.Fld.m Go.Num.fld)) = ((1 : Int) % (Go.Num.Fld.m Go.Num.fld))))) = Bool.false))
    (h11 : (Go.Abs.EqT Go.Proofs.Try.prog (27 : Nat)))
    (h12 : ((!(decide (((Go.Num.invOf (Go.Num.invOf (Go.Num.be l))) % (Go.Num.Fld.m Go.Num.fld)) = ((Go.Num.be l) % (Go.Num.Fld.m Go.Num.fld))))) = Bool.false))
    (h13 : ((decide (((Go.Num.be m) % (Go.Num.Fld.m Go.Num.fld)) = ((0 : Int) % (Go.Num.Fld.m Go.Num.fld)))) = Bool.true)) :
    ∃ ps, runF Try.prog FD gamZ 200 Try.f5 [.one (.words .u8 l), .one (.words .u8 m)] [.is false, .is false, .is false, .is false, .is false, .is true] = some ((Go.Abs.AV.v (Go.Abs.A0.one (Go.Abs.Part.bool Bool.true Bool.true))), ps) ∧ AllQ ps := ⟨_, inverts_zeroB_r l m, AllP.all ⟨h1, h2, h3, h4, h5, h6, h7, h8, h9, (show (Go.Num.Rng (1 : Int)) from by decide), h10, h11, h12, h11, h13⟩⟩

theorem inverts_run_r (l m : List Int) : runF Try.prog FD gamZ 200 Try.f5 [.one (.words .u8 l), .one (.words .u8 m)] [.is false, .is false, .is false, .is false, .is false, .is false, .is true] =
    some ((Go.Abs.AV.v (Go.Abs.A0.one (Go.Abs.Part.bool Bool.true Bool.true))), [((decide ((((List.length l) : Nat) : Int) > (400 : Int))) = Bool.false), ((decide ((((List.length m) : Nat) : Int) > (400 : Int))) = Bool.false), ((List.length l) ≤ (281474976710656 : Nat)), (Go.Num.InB l), ((List.length l) ≤ (9223372036854775807 : Nat)), ((List.length m) ≤ (281474976710656 : Nat)), (Go.Num.InB m), ((List.length m) ≤ (9223372036854775807 : Nat)), ((decide (((Go.Num.be l) % (Go.Num.Fld.m Go.Num.fld)) = ((0 : Int) % (Go.Num.Fld.m Go.Num.fld)))) = Bool.false), (Go.Num.Rng (1 : Int)), ((!(decide ((((Go.Num.be l) * (Go.Num.invOf (Go.Num.be l))) % (Go.Num.Fld.m Go.Num.fld)) = ((1 : Int) % (Go.Num.Fld.m Go.Num.fld))))) = Bool.false), (Go.Abs.EqT Go.Proofs.Try.prog (27 : Nat)), ((!(decide (((Go.Num.invOf (Go.Num.invOf (Go.Num.be l))) % (Go.Num.Fld.m Go.Num.fld)) = ((Go.Num.be l) % (Go.Num.Fld.m Go.Num.fld))))) = Bool.false), (Go.Abs.EqT Go.Proofs.Try.prog (27 : Nat)), ((decide (((Go.Num.be m) % (Go.Num.Fld.m Go.Num.fld)) = ((0 : Int) % (Go.Num.Fld.m Go.Num.fld)))) = Bool.false), ((decide (((Go.Num.invOf ((Go.Num.be l) * (Go.Num.be m))) % (Go.Num.Fld.m Go.Num.fld)) = (((Go.Num.invOf (Go.Num.be l)) * (Go.Num.invOf (Go.Num.be m))) % (Go.Num.Fld.m Go.Num.fld)))) = Bool.true), (Go.Abs.EqT Go.Proofs.Try.prog (27 : Nat))]) := by kernel_rfl
theorem inverts_run (l m : List Int)
    (h1 : ((decide ((((List.length l) : Nat) : Int) > (400 : Int))) = Bool.false))
    (h2 : ((decide ((((List.length m) : Nat) : Int) > (400 : Int))) = Bool.false))
    (h3 : ((List.length l) ≤ (281474976710656 : Nat)))
    (h4 : (Go.Num.InB l))
    (h5 : ((List.length l) ≤ (9223372036854775807 : Nat)))
    (h6 : ((List.length m) ≤ (281474976710656 : Nat)))
    (h7 : (Go.Num.InB m))
    (h8 : ((List.length m) ≤ (9223372036854775807 : Nat)))
    (h9 : ((decide (((Go.Num.be l) % (Go.Num.Fld.m Go.Num.fld)) = ((0 : Int) % (Go.Num.Fld.m Go.Num.fld)))) = Bool.false))
    (h10 : ((!(decide ((((Go.Num.be l) * (Go.Num.invOf (Go.Num.be l))) % (Go.Num.Fld.m Go.Num.fld)) = ((1 : Int) % (Go.Num.Fld.m Go.Num.fld))))) = Bool.false))
    (h11 : (Go.Abs.EqT Go.Proofs.Try.prog (27 : Nat)))
    (h12 : ((!(decide (((Go.Num.invOf (Go.Num.invOf (Go.Num.be l))) % (Go.Num.Fld.m Go.Num.fld)) = ((Go.Num.be l) % (Go.Num.Fld.m Go.Num.fld))))) = Bool.false))
    (h13 : ((decide (((Go.Num.be m) % (Go.Num.Fld.m Go.Num.fld)) = ((0 : Int) % (Go.Num.Fld.m Go.Num.fld)))) = Bool.false))
    (h14 : ((decide (((Go.Num.invOf ((Go.Num.be l) * (Go.Num.be m))) % (Go.Num.Fld.m Go.Num.fld)) = (((Go.Num.invOf (Go.Num.be l)) * (Go.Num.invOf (Go.Num.be m))) % (Go.Num.Fld.m Go.Num.fld)))) = Bool.true)) :
    ∃ ps, runF Try.prog FD gamZ 200 Try.f5 [.one (.words .u8 l), .one (.words .u8 m)] [.is false, .is false, .is false, .is false, .is false, .is false, .is true] = some ((Go.Abs.AV.v (Go.Abs.A0.one (Go.Abs.Part.bool Bool.true Bool.true))), ps) ∧ AllQ ps := ⟨_, inverts_run_r l m, AllP.all ⟨h1, h2, h3, h4, h5, h6, h7, h8, h9, (show (Go.Num.Rng (1 : Int)) from by decide), h10, h11, h12, h11, h13, h14, h11⟩⟩

theorem cg1_ne {a b : Int} (h : a * b % fld.m = 1 % fld.m) : b % fld.m ≠ 0 := by
  intro h0
  rw [Int.mul_emod, h0, Int.mul_zero, Int.zero_emod] at h
  exact absurd h (by decide)

theorem inv_inv {a : Int} (h : a % fld.m ≠ 0) : invOf (invOf a) % fld.m = a % fld.m := by
  have h1 := inv_cg h
  have h2 := inv_cg (cg1_ne h1)
  have h3 : Cg fld.m (a * invOf a) 1 := h1
  have h4 : Cg fld.m (invOf a * invOf (invOf a)) 1 := h2
  have h5 := (Cg.refl fld.m a).mul h4
  rw [← Int.mul_assoc, Int.mul_one] at h5
  have h6 := h3.mul (Cg.refl fld.m (invOf (invOf a)))
  rw [Int.one_mul] at h6
  exact h6.symm.trans h5

theorem inv_mul (a b : Int) : invOf (a * b) = invOf a * invOf b := by
  unfold invOf
  exact Int.mul_pow ..

theorem lawInverts {l m : List Int} (hb : InB l) (_hl : l.length ≤ 140737488351232) (hc : InB m) (_hm : m.length ≤ 140737488351232) : LawOK Try.f5 [.one (.words .u8 l), .one (.words .u8 m)] := by
  have no : ∀ {x y : Int}, x = y → (!(decide (x = y))) = false := fun h => by rw [decide_eq_true h]; rfl
  by_cases h : (l.length : Int) > 400
  · obtain ⟨ps, h1, h2⟩ := inverts_longA l m (decide_eq_true h)
    exact ⟨gamZ, gamZ_ok, _, ps, h1, h2⟩
  by_cases k : (m.length : Int) > 400
  · obtain ⟨ps, h1, h2⟩ := inverts_longB l m (decide_eq_false h) (decide_eq_true k)
    exact ⟨gamZ, gamZ_ok, _, ps, h1, h2⟩
  by_cases hz : be l % fld.m = 0
  · obtain ⟨ps, h1, h2⟩ := inverts_zero l m (decide_eq_false h) (decide_eq_false k) (by omega) hb (by omega) (by omega) hc (by omega) (decide_eq_true (by rw [hz, Int.zero_emod])) (decide_eq_true (by rw [inv_zero hz, Int.zero_emod])) el_eqT
    exact ⟨gamZ, gamZ_ok, _, ps, h1, h2⟩
  by_cases hy : be m % fld.m = 0
  · obtain ⟨ps, h1, h2⟩ := inverts_zeroB l m (decide_eq_false h) (decide_eq_false k) (by omega) hb (by omega) (by omega) hc (by omega) (decide_eq_false (by rw [Int.zero_emod]; exact hz)) (no (inv_cg hz)) el_eqT (no (inv_inv hz)) (decide_eq_true (by rw [hy, Int.zero_emod]))
    exact ⟨gamZ, gamZ_ok, _, ps, h1, h2⟩
  · obtain ⟨ps, h1, h2⟩ := inverts_run l m (decide_eq_false h) (decide_eq_false k) (by omega) hb (by omega) (by omega) hc (by omega) (decide_eq_false (by rw [Int.zero_emod]; exact hz)) (no (inv_cg hz)) el_eqT (no (inv_inv hz)) (decide_eq_false (by rw [Int.zero_emod]; exact hy)) (decide_eq_true (by rw [inv_mul]))
    exact ⟨gamZ, gamZ_ok, _, ps, h1, h2⟩

end Go.Num

/- Messages: the reference's Right. -/
import Derived.Test.YtbmjpcpmejibjaaW2
namespace Go.Num
open Go.Abs Go.Proofs Go.Shelf

theorem rr_0_r (kd ep fr wh tp rd : Int) (bd : List Int) : runF Try.prog D0 [] 200 Try.f15 [.agg (msgP kd ep fr wh tp rd bd)] [.is false, .is false, .is false, .is false, .is false, .is false, .is false, .is false, .is false, .is false, .is false, .is false, .is false, .is false, .is false] =
    some ((Go.Abs.AV.v (Go.Abs.A0.one (Go.Abs.Part.bool Bool.true Bool.false))), [((decide (ep < (0 : Int))) = Bool.false), ((decide (ep > (1048576 : Int))) = Bool.false), ((decide (fr < (1 : Int))) = Bool.false), ((decide (fr > (9 : Int))) = Bool.false), ((decide (rd < (0 : Int))) = Bool.false), ((decide (rd > (1099511627776 : Int))) = Bool.false), ((decide (kd ≥ (1 : Int))) = Bool.false), ((wh != (0 : Int)) = Bool.false), ((tp != (0 : Int)) = Bool.false), ((kd == (4 : Int)) = Bool.false), ((kd == (5 : Int)) = Bool.false), ((rd == (0 : Int)) = Bool.false), ((kd == (6 : Int)) = Bool.false), ((kd == (7 : Int)) = Bool.false), ((kd == (8 : Int)) = Bool.false)]) := by kernel_rfl
theorem rr_0 (kd ep fr wh tp rd : Int) (bd : List Int)
    (h1 : ((decide (ep < (0 : Int))) = Bool.false))
    (h2 : ((decide (ep > (1048576 : Int))) = Bool.false))
    (h3 : ((decide (fr < (1 : Int))) = Bool.false))
    (h4 : ((decide (fr > (9 : Int))) = Bool.false))
    (h5 : ((decide (rd < (0 : Int))) = Bool.false))
    (h6 : ((decide (rd > (1099511627776 : Int))) = Bool.false))
    (h7 : ((decide (kd ≥ (1 : Int))) = Bool.false))
    (h8 : ((wh != (0 : Int)) = Bool.false))
    (h9 : ((tp != (0 : Int)) = Bool.false))
    (h10 : ((kd == (4 : Int)) = Bool.false))
    (h11 : ((kd == (5 : Int)) = Bool.false))
    (h12 : ((rd == (0 : Int)) = Bool.false))
    (h13 : ((kd == (6 : Int)) = Bool.false))
    (h14 : ((kd == (7 : Int)) = Bool.false))
    (h15 : ((kd == (8 : Int)) = Bool.false)) :
    ∃ ps, runF Try.prog D0 [] 200 Try.f15 [.agg (msgP kd ep fr wh tp rd bd)] [.is false, .is false, .is false, .is false, .is false, .is false, .is false, .is false, .is false, .is false, .is false, .is false, .is false, .is false, .is false] = some ((Go.Abs.AV.v (Go.Abs.A0.one (Go.Abs.Part.bool Bool.true Bool.false))), ps) ∧ AllQ ps := ⟨_, rr_0_r kd ep fr wh tp rd bd, AllP.all ⟨h1, h2, h3, h4, h5, h6, h7, h8, h9, h10, h11, h12, h13, h14, h15⟩⟩

theorem rr_1_r (kd ep fr wh tp rd : Int) (bd : List Int) : runF Try.prog D0 [] 200 Try.f15 [.agg (msgP kd ep fr wh tp rd bd)] [.is false, .is false, .is false, .is false, .is false, .is false, .is false, .is false, .is false, .is false, .is false, .is false, .is false, .is false, .is true, .is false] =
    some ((Go.Abs.AV.v (Go.Abs.A0.one (Go.Abs.Part.bool Bool.true Bool.false))), [((decide (ep < (0 : Int))) = Bool.false), ((decide (ep > (1048576 : Int))) = Bool.false), ((decide (fr < (1 : Int))) = Bool.false), ((decide (fr > (9 : Int))) = Bool.false), ((decide (rd < (0 : Int))) = Bool.false), ((decide (rd > (1099511627776 : Int))) = Bool.false), ((decide (kd ≥ (1 : Int))) = Bool.false), ((wh != (0 : Int)) = Bool.false), ((tp != (0 : Int)) = Bool.false), ((kd == (4 : Int)) = Bool.false), ((kd == (5 : Int)) = Bool.false), ((rd == (0 : Int)) = Bool.false), ((kd == (6 : Int)) = Bool.false), ((kd == (7 : Int)) = Bool.false), ((kd == (8 : Int)) = Bool.true), ((decide ((((List.length bd) : Nat) : Int) > (0 : Int))) = Bool.false)]) := by kernel_rfl
theorem rr_1 (kd ep fr wh tp rd : Int) (bd : List Int)
    (h1 : ((decide (ep < (0 : Int))) = Bool.false))
    (h2 : ((decide (ep > (1048576 : Int))) = Bool.false))
    (h3 : ((decide (fr < (1 : Int))) = Bool.false))
    (h4 : ((decide (fr > (9 : Int))) = Bool.false))
    (h5 : ((decide (rd < (0 : Int))) = Bool.false))
    (h6 : ((decide (rd > (1099511627776 : Int))) = Bool.false))
    (h7 : ((decide (kd ≥ (1 : Int))) = Bool.false))
    (h8 : ((wh != (0 : Int)) = Bool.false))
    (h9 : ((tp != (0 : Int)) = Bool.false))
    (h10 : ((kd == (4 : Int)) = Bool.false))
    (h11 : ((kd == (5 : Int)) = Bool.false))
    (h12 : ((rd == (0 : Int)) = Bool.false))
    (h13 : ((kd == (6 : Int)) = Bool.false))
    (h14 : ((kd == (7 : Int)) = Bool.false))
    (h15 : ((kd == (8 : Int)) = Bool.true))
    (h16 : ((decide ((((List.length bd) : Nat) : Int) > (0 : Int))) = Bool.false)) :
    ∃ ps, runF Try.prog D0 [] 200 Try.f15 [.agg (msgP kd ep fr wh tp rd bd)] [.is false, .is false, .is false, .is false, .is false, .is false, .is false, .is false, .is false, .is false, .is false, .is false, .is false, .is false, .is true, .is false] = some ((Go.Abs.AV.v (Go.Abs.A0.one (Go.Abs.Part.bool Bool.true Bool.false))), ps) ∧ AllQ ps := ⟨_, rr_1_r kd ep fr wh tp rd bd, AllP.all ⟨h1, h2, h3, h4, h5, h6, h7, h8, h9, h10, h11, h12, h13, h14, h15, h16⟩⟩

theorem rr_2_r (kd ep fr wh tp rd : Int) (bd : List Int) : runF Try.prog D0 [] 200 Try.f15 [.agg (msgP kd ep fr wh tp rd bd)] [.is false, .is false, .is false, .is false, .is false, .is false, .is false, .is false, .is false, .is false, .is false, .is false, .is false, .is false, .is true, .is true, .is false] =
    some ((Go.Abs.AV.v (Go.Abs.A0.one (Go.Abs.Part.bool Bool.true Bool.false))), [((decide (ep < (0 : Int))) = Bool.false), ((decide (ep > (1048576 : Int))) = Bool.false), ((decide (fr < (1 : Int))) = Bool.false), ((decide (fr > (9 : Int))) = Bool.false), ((decide (rd < (0 : Int))) = Bool.false), ((decide (rd > (1099511627776 : Int))) = Bool.false), ((decide (kd ≥ (1 : Int))) = Bool.false), ((wh != (0 : Int)) = Bool.false), ((tp != (0 : Int)) = Bool.false), ((kd == (4 : Int)) = Bool.false), ((kd == (5 : Int)) = Bool.false), ((rd == (0 : Int)) = Bool.false), ((kd == (6 : Int)) = Bool.false), ((kd == (7 : Int)) = Bool.false), ((kd == (8 : Int)) = Bool.true), ((decide ((((List.length bd) : Nat) : Int) > (0 : Int))) = Bool.true), ((decide ((((List.length bd) : Nat) : Int) ≤ (768 : Int))) = Bool.false)]) := by kernel_rfl
theorem rr_2 (kd ep fr wh tp rd : Int) (bd : List Int)
    (h1 : ((decide (ep < (0 : Int))) = Bool.false))
    (h2 : ((decide (ep > (1048576 : Int))) = Bool.false))
    (h3 : ((decide (fr < (1 : Int))) = Bool.false))
    (h4 : ((decide (fr > (9 : Int))) = Bool.false))
    (h5 : ((decide (rd < (0 : Int))) = Bool.false))
    (h6 : ((decide (rd > (1099511627776 : Int))) = Bool.false))
    (h7 : ((decide (kd ≥ (1 : Int))) = Bool.false))
    (h8 : ((wh != (0 : Int)) = Bool.false))
    (h9 : ((tp != (0 : Int)) = Bool.false))
    (h10 : ((kd == (4 : Int)) = Bool.false))
    (h11 : ((kd == (5 : Int)) = Bool.false))
    (h12 : ((rd == (0 : Int)) = Bool.false))
    (h13 : ((kd == (6 : Int)) = Bool.false))
    (h14 : ((kd == (7 : Int)) = Bool.false))
    (h15 : ((kd == (8 : Int)) = Bool.true))
    (h16 : ((decide ((((List.length bd) : Nat) : Int) > (0 : Int))) = Bool.true))
    (h17 : ((decide ((((List.length bd) : Nat) : Int) ≤ (768 : Int))) = Bool.false)) :
    ∃ ps, runF Try.prog D0 [] 200 Try.f15 [.agg (msgP kd ep fr wh tp rd bd)] [.is false, .is false, .is false, .is false, .is false, .is false, .is false, .is false, .is false, .is false, .is false, .is false, .is false, .is false, .is true, .is true, .is false] = some ((Go.Abs.AV.v (Go.Abs.A0.one (Go.Abs.Part.bool Bool.true Bool.false))), ps) ∧ AllQ ps := ⟨_, rr_2_r kd ep fr wh tp rd bd, AllP.all ⟨h1, h2, h3, h4, h5, h6, h7, h8, h9, h10, h11, h12, h13, h14, h15, h16, h17⟩⟩

theorem rr_3_r (kd ep fr wh tp rd : Int) (bd : List Int) : runF Try.prog D0 [] 200 Try.f15 [.agg (msgP kd ep fr wh tp rd bd)] [.is false, .is false, .is false, .is false, .is false, .is false, .is false, .is false, .is false, .is false, .is false, .is false, .is false, .is false, .is true, .is true, .is true, .is false] =
    some ((Go.Abs.AV.v (Go.Abs.A0.one (Go.Abs.Part.bool Bool.true Bool.false))), [((decide (ep < (0 : Int))) = Bool.false), ((decide (ep > (1048576 : Int))) = Bool.false), ((decide (fr < (1 : Int))) = Bool.false), ((decide (fr > (9 : Int))) = Bool.false), ((decide (rd < (0 : Int))) = Bool.false), ((decide (rd > (1099511627776 : Int))) = Bool.false), ((decide (kd ≥ (1 : Int))) = Bool.false), ((wh != (0 : Int)) = Bool.false), ((tp != (0 : Int)) = Bool.false), ((kd == (4 : Int)) = Bool.false), ((kd == (5 : Int)) = Bool.false), ((rd == (0 : Int)) = Bool.false), ((kd == (6 : Int)) = Bool.false), ((kd == (7 : Int)) = Bool.false), ((kd == (8 : Int)) = Bool.true), ((decide ((((List.length bd) : Nat) : Int) > (0 : Int))) = Bool.true), ((decide ((((List.length bd) : Nat) : Int) ≤ (768 : Int))) = Bool.true), (((Int.tmod (((List.length bd) : Nat) : Int) (96 : Int)) == (0 : Int)) = Bool.false)]) := by kernel_rfl
theorem rr_3 (kd ep fr wh tp rd : Int) (bd : List Int)
    (h1 : ((decide (ep < (0 : Int))) = Bool.false))
    (h2 : ((decide (ep > (1048576 : Int))) = Bool.false))
    (h3 : ((decide (fr < (1 : Int))) = Bool.false))
    (h4 : ((decide (fr > (9 : Int))) = Bool.false))
    (h5 : ((decide (rd < (0 : Int))) = Bool.false))
    (h6 : ((decide (rd > (1099511627776 : Int))) = Bool.false))
    (h7 : ((decide (kd ≥ (1 : Int))) = Bool.false))
    (h8 : ((wh != (0 : Int)) = Bool.false))
    (h9 : ((tp != (0 : Int)) = Bool.false))
    (h10 : ((kd == (4 : Int)) = Bool.false))
    (h11 : ((kd == (5 : Int)) = Bool.false))
    (h12 : ((rd == (0 : Int)) = Bool.false))
    (h13 : ((kd == (6 : Int)) = Bool.false))
    (h14 : ((kd == (7 : Int)) = Bool.false))
    (h15 : ((kd == (8 : Int)) = Bool.true))
    (h16 : ((decide ((((List.length bd) : Nat) : Int) > (0 : Int))) = Bool.true))
    (h17 : ((decide ((((List.length bd) : Nat) : Int) ≤ (768 : Int))) = Bool.true))
    (h18 : (((Int.tmod (((List.length bd) : Nat) : Int) (96 : Int)) == (0 : Int)) = Bool.false)) :
    ∃ ps, runF Try.prog D0 [] 200 Try.f15 [.agg (msgP kd ep fr wh tp rd bd)] [.is false, .is false, .is false, .is false, .is false, .is false, .is false, .is false, .is false, .is false, .is false, .is false, .is false, .is false, .is true, .is true, .is true, .is false] = some ((Go.Abs.AV.v (Go.Abs.A0.one (Go.Abs.Part.bool Bool.true Bool.false))), ps) ∧ AllQ ps := ⟨_, rr_3_r kd ep fr wh tp rd bd, AllP.all ⟨h1, h2, h3, h4, h5, h6, h7, h8, h9, h10, h11, h12, h13, h14, h15, h16, h17, h18⟩⟩

theorem rr_4_r (kd ep fr wh tp rd : Int) (bd : List Int) : runF Try.prog D0 [] 200 Try.f15 [.agg (msgP kd ep fr wh tp rd bd)] [.is false, .is false, .is false, .is false, .is false, .is false, .is false, .is false, .is false, .is false, .is false, .is false, .is false, .is false, .is true, .is true, .is true, .is true] =
    some ((Go.Abs.AV.v (Go.Abs.A0.one (Go.Abs.Part.bool Bool.true Bool.true))), [((decide (ep < (0 : Int))) = Bool.false), ((decide (ep > (1048576 : Int))) = Bool.false), ((decide (fr < (1 : Int))) = Bool.false), ((decide (fr > (9 : Int))) = Bool.false), ((decide (rd < (0 : Int))) = Bool.false), ((decide (rd > (1099511627776 : Int))) = Bool.false), ((decide (kd ≥ (1 : Int))) = Bool.false), ((wh != (0 : Int)) = Bool.false), ((tp != (0 : Int)) = Bool.false), ((kd == (4 : Int)) = Bool.false), ((kd == (5 : Int)) = Bool.false), ((rd == (0 : Int)) = Bool.false), ((kd == (6 : Int)) = Bool.false), ((kd == (7 : Int)) = Bool.false), ((kd == (8 : Int)) = Bool.true), ((decide ((((List.length bd) : Nat) : Int) > (0 : Int))) = Bool.true), ((decide ((((List.length bd) : Nat) : Int) ≤ (768 : Int))) = Bool.true), (((Int.tmod (((List.length bd) : Nat) : Int) (96 : Int)) == (0 : Int)) = Bool.true)]) := by kernel_rfl
theorem rr_4 (kd ep fr wh tp rd : Int) (bd : List Int)
    (h1 : ((decide (ep < (0 : Int))) = Bool.false))
    (h2 : ((decide (ep > (1048576 : Int))) = Bool.false))
    (h3 : ((decide (fr < (1 : Int))) = Bool.false))
    (h4 : ((decide (fr > (9 : Int))) = Bool.false))
    (h5 : ((decide (rd < (0 : Int))) = Bool.false))
    (h6 : ((decide (rd > (1099511627776 : Int))) = Bool.false))
    (h7 : ((decide (kd ≥ (1 : Int))) = Bool.false))
    (h8 : ((wh != (0 : Int)) = Bool.false))
    (h9 : ((tp != (0 : Int)) = Bool.false))
    (h10 : ((kd == (4 : Int)) = Bool.false))
    (h11 : ((kd == (5 : Int)) = Bool.false))
    (h12 : ((rd == (0 : Int)) = Bool.false))
    (h13 : ((kd == (6 : Int)) = Bool.false))
    (h14 : ((kd == (7 : Int)) = Bool.false))
    (h15 : ((kd == (8 : Int)) = Bool.true))
    (h16 : ((decide ((((List.length bd) : Nat) : Int) > (0 : Int))) = Bool.true))
    (h17 : ((decide ((((List.length bd) : Nat) : Int) ≤ (768 : Int))) = Bool.true))
    (h18 : (((Int.tmod (((List.length bd) : Nat) : Int) (96 : Int)) == (0 : Int)) = Bool.true)) :
    ∃ ps, runF Try.prog D0 [] 200 Try.f15 [.agg (msgP kd ep fr wh tp rd bd)] [.is false, .is false, .is false, .is false, .is false, .is false, .is false, .is false, .is false, .is false, .is false, .is false, .is false, .is false, .is true, .is true, .is true, .is true] = some ((Go.Abs.AV.v (Go.Abs.A0.one (Go.Abs.Part.bool Bool.true Bool.true))), ps) ∧ AllQ ps := ⟨_, rr_4_r kd ep fr wh tp rd bd, AllP.all ⟨h1, h2, h3, h4, h5, h6, h7, h8, h9, h10, h11, h12, h13, h14, h15, h16, h17, h18⟩⟩

theorem rr_5_r (kd ep fr wh tp rd : Int) (bd : List Int) : runF Try.prog D0 [] 200 Try.f15 [.agg (msgP kd ep fr wh tp rd bd)] [.is false, .is false, .is false, .is false, .is false, .is false, .is false, .is false, .is false, .is false, .is false, .is false, .is false, .is true, .is false, .is false] =
    some ((Go.Abs.AV.v (Go.Abs.A0.one (Go.Abs.Part.bool Bool.true Bool.false))), [((decide (ep < (0 : Int))) = Bool.false), ((decide (ep > (1048576 : Int))) = Bool.false), ((decide (fr < (1 : Int))) = Bool.false), ((decide (fr > (9 : Int))) = Bool.false), ((decide (rd < (0 : Int))) = Bool.false), ((decide (rd > (1099511627776 : Int))) = Bool.false), ((decide (kd ≥ (1 : Int))) = Bool.false), ((wh != (0 : Int)) = Bool.false), ((tp != (0 : Int)) = Bool.false), ((kd == (4 : Int)) = Bool.false), ((kd == (5 : Int)) = Bool.false), ((rd == (0 : Int)) = Bool.false), ((kd == (6 : Int)) = Bool.false), ((kd == (7 : Int)) = Bool.true), (((((List.length bd) : Nat) : Int) == (0 : Int)) = Bool.false), ((kd == (8 : Int)) = Bool.false)]) := by kernel_rfl
theorem rr_5 (kd ep fr wh tp rd : Int) (bd : List Int)
    (h1 : ((decide (ep < (0 : Int))) = Bool.false))
    (h2 : ((decide (ep > (1048576 : Int))) = Bool.false))
    (h3 : ((decide (fr < (1 : Int))) = Bool.false))
    (h4 : ((decide (fr > (9 : Int))) = Bool.false))
    (h5 : ((decide (rd < (0 : Int))) = Bool.false))
    (h6 : ((decide (rd > (1099511627776 : Int))) = Bool.false))
    (h7 : ((decide (kd ≥ (1 : Int))) = Bool.false))
    (h8 : ((wh != (0 : Int)) = Bool.false))
    (h9 : ((tp != (0 : Int)) = Bool.false))
    (h10 : ((kd == (4 : Int)) = Bool.false))
    (h11 : ((kd == (5 : Int)) = Bool.false))
    (h12 : ((rd == (0 : Int)) = Bool.false))
    (h13 : ((kd == (6 : Int)) = Bool.false))
    (h14 : ((kd == (7 : Int)) = Bool.true))
    (h15 : (((((List.length bd) : Nat) : Int) == (0 : Int)) = Bool.false))
    (h16 : ((kd == (8 : Int)) = Bool.false)) :
    ∃ ps, runF Try.prog D0 [] 200 Try.f15 [.agg (msgP kd ep fr wh tp rd bd)] [.is false, .is false, .is false, .is false, .is false, .is false, .is false, .is false, .is false, .is false, .is false, .is false, .is false, .is true, .is false, .is false] = some ((Go.Abs.AV.v (Go.Abs.A0.one (Go.Abs.Part.bool Bool.true Bool.false))), ps) ∧ AllQ ps := ⟨_, rr_5_r kd ep fr wh tp rd bd, AllP.all ⟨h1, h2, h3, h4, h5, h6, h7, h8, h9, h10, h11, h12, h13, h14, h15, h16⟩⟩

theorem rr_6_r (kd ep fr wh tp rd : Int) (bd : List Int) : runF Try.prog D0 [] 200 Try.f15 [.agg (msgP kd ep fr wh tp rd bd)] [.is false, .is false, .is false, .is false, .is false, .is false, .is false, .is false, .is false, .is false, .is false, .is false, .is false, .is true, .is false, .is true, .is false] =
    some ((Go.Abs.AV.v (Go.Abs.A0.one (Go.Abs.Part.bool Bool.true Bool.false))), [((decide (ep < (0 : Int))) = Bool.false), ((decide (ep > (1048576 : Int))) = Bool.false), ((decide (fr < (1 : Int))) = Bool.false), ((decide (fr > (9 : Int))) = Bool.false), ((decide (rd < (0 : Int))) = Bool.false), ((decide (rd > (1099511627776 : Int))) = Bool.false), ((decide (kd ≥ (1 : Int))) = Bool.false), ((wh != (0 : Int)) = Bool.false), ((tp != (0 : Int)) = Bool.false), ((kd == (4 : Int)) = Bool.false), ((kd == (5 : Int)) = Bool.false), ((rd == (0 : Int)) = Bool.false), ((kd == (6 : Int)) = Bool.false), ((kd == (7 : Int)) = Bool.true), (((((List.length bd) : Nat) : Int) == (0 : Int)) = Bool.false), ((kd == (8 : Int)) = Bool.true), ((decide ((((List.length bd) : Nat) : Int) > (0 : Int))) = Bool.false)]) := by kernel_rfl
theorem rr_6 (kd ep fr wh tp rd : Int) (bd : List Int)
    (h1 : ((decide (ep < (0 : Int))) = Bool.false))
    (h2 : ((decide (ep > (1048576 : Int))) = Bool.false))
    (h3 : ((decide (fr < (1 : Int))) = Bool.false))
    (h4 : ((decide (fr > (9 : Int))) = Bool.false))
    (h5 : ((decide (rd < (0 : Int))) = Bool.false))
    (h6 : ((decide (rd > (1099511627776 : Int))) = Bool.false))
    (h7 : ((decide (kd ≥ (1 : Int))) = Bool.false))
    (h8 : ((wh != (0 : Int)) = Bool.false))
    (h9 : ((tp != (0 : Int)) = Bool.false))
    (h10 : ((kd == (4 : Int)) = Bool.false))
    (h11 : ((kd == (5 : Int)) = Bool.false))
    (h12 : ((rd == (0 : Int)) = Bool.false))
    (h13 : ((kd == (6 : Int)) = Bool.false))
    (h14 : ((kd == (7 : Int)) = Bool.true))
    (h15 : (((((List.length bd) : Nat) : Int) == (0 : Int)) = Bool.false))
    (h16 : ((kd == (8 : Int)) = Bool.true))
    (h17 : ((decide ((((List.length bd) : Nat) : Int) > (0 : Int))) = Bool.false)) :
    ∃ ps, runF Try.prog D0 [] 200 Try.f15 [.agg (msgP kd ep fr wh tp rd bd)] [.is false, .is false, .is false, .is false, .is false, .is false, .is false, .is false, .is false, .is false, .is false, .is false, .is false, .is true, .is false, .is true, .is false] = some ((Go.Abs.AV.v (Go.Abs.A0.one (Go.Abs.Part.bool Bool.true Bool.false))), ps) ∧ AllQ ps := ⟨_, rr_6_r kd ep fr wh tp rd bd, AllP.all ⟨h1, h2, h3, h4, h5, h6, h7, h8, h9, h10, h11, h12, h13, h14, h15, h16, h17⟩⟩

theorem rr_7_r (kd ep fr wh tp rd : Int) (bd : List Int) : runF Try.prog D0 [] 200 Try.f15 [.agg (msgP kd ep fr wh tp rd bd)] [.is false, .is false, .is false, .is false, .is false, .is false, .is false, .is false, .is false, .is false, .is false, .is false, .is false, .is true, .is false, .is true, .is true, .is false] =
    some ((Go.Abs.AV.v (Go.Abs.A0.one (Go.Abs.Part.bool Bool.true Bool.false))), [((decide (ep < (0 : Int))) = Bool.false), ((decide (ep > (1048576 : Int))) = Bool.false), ((decide (fr < (1 : Int))) = Bool.false), ((decide (fr > (9 : Int))) = Bool.false), ((decide (rd < (0 : Int))) = Bool.false), ((decide (rd > (1099511627776 : Int))) = Bool.false), ((decide (kd ≥ (1 : Int))) = Bool.false), ((wh != (0 : Int)) = Bool.false), ((tp != (0 : Int)) = Bool.false), ((kd == (4 : Int)) = Bool.false), ((kd == (5 : Int)) = Bool.false), ((rd == (0 : Int)) = Bool.false), ((kd == (6 : Int)) = Bool.false), ((kd == (7 : Int)) = Bool.true), (((((List.length bd) : Nat) : Int) == (0 : Int)) = Bool.false), ((kd == (8 : Int)) = Bool.true), ((decide ((((List.length bd) : Nat) : Int) > (0 : Int))) = Bool.true), ((decide ((((List.length bd) : Nat) : Int) ≤ (768 : Int))) = Bool.false)]) := by kernel_rfl
theorem rr_7 (kd ep fr wh tp rd : Int) (bd : List Int)
    (h1 : ((decide (ep < (0 : Int))) = Bool.false))
    (h2 : ((decide (ep > (1048576 : Int))) = Bool.false))
    (h3 : ((decide (fr < (1 : Int))) = Bool.false))
    (h4 : ((decide (fr > (9 : Int))) = Bool.false))
    (h5 : ((decide (rd < (0 : Int))) = Bool.false))
    (h6 : ((decide (rd > (1099511627776 : Int))) = Bool.false))
    (h7 : ((decide (kd ≥ (1 : Int))) = Bool.false))
    (h8 : ((wh != (0 : Int)) = Bool.false))
    (h9 : ((tp != (0 : Int)) = Bool.false))
    (h10 : ((kd == (4 : Int)) = Bool.false))
    (h11 : ((kd == (5 : Int)) = Bool.false))
    (h12 : ((rd == (0 : Int)) = Bool.false))
    (h13 : ((kd == (6 : Int)) = Bool.false))
    (h14 : ((kd == (7 : Int)) = Bool.true))
    (h15 : (((((List.length bd) : Nat) : Int) == (0 : Int)) = Bool.false))
    (h16 : ((kd == (8 : Int)) = Bool.true))
    (h17 : ((decide ((((List.length bd) : Nat) : Int) > (0 : Int))) = Bool.true))
    (h18 : ((decide ((((List.length bd) : Nat) : Int) ≤ (768 : Int))) = Bool.false)) :
    ∃ ps, runF Try.prog D0 [] 200 Try.f15 [.agg (msgP kd ep fr wh tp rd bd)] [.is false, .is false, .is false, .is false, .is false, .is false, .is false, .is false, .is false, .is false, .is false, .is false, .is false, .is true, .is false, .is true, .is true, .is false] = some ((Go.Abs.AV.v (Go.Abs.A0.one (Go.Abs.Part.bool Bool.true Bool.false))), ps) ∧ AllQ ps := ⟨_, rr_7_r kd ep fr wh tp rd bd, AllP.all ⟨h1, h2, h3, h4, h5, h6, h7, h8, h9, h10, h11, h12, h13, h14, h15, h16, h17, h18⟩⟩

theorem rr_8_r (kd ep fr wh tp rd : Int) (bd : List Int) : runF Try.prog D0 [] 200 Try.f15 [.agg (msgP kd ep fr wh tp rd bd)] [.is false, .is false, .is false, .is false, .is false, .is false, .is false, .is false, .is false, .is false, .is false, .is false, .is false, .is true, .is false, .is true, .is true, .is true, .is false] =
    some ((Go.Abs.AV.v (Go.Abs.A0.one (Go.Abs.Part.bool Bool.true Bool.false))), [((decide (ep < (0 : Int))) = Bool.false), ((decide (ep > (1048576 : Int))) = Bool.false), ((decide (fr < (1 : Int))) = Bool.false), ((decide (fr > (9 : Int))) = Bool.false), ((decide (rd < (0 : Int))) = Bool.false), ((decide (rd > (1099511627776 : Int))) = Bool.false), ((decide (kd ≥ (1 : Int))) = Bool.false), ((wh != (0 : Int)) = Bool.false), ((tp != (0 : Int)) = Bool.false), ((kd == (4 : Int)) = Bool.false), ((kd == (5 : Int)) = Bool.false), ((rd == (0 : Int)) = Bool.false), ((kd == (6 : Int)) = Bool.false), ((kd == (7 : Int)) = Bool.true), (((((List.length bd) : Nat) : Int) == (0 : Int)) = Bool.false), ((kd == (8 : Int)) = Bool.true), ((decide ((((List.length bd) : Nat) : Int) > (0 : Int))) = Bool.true), ((decide ((((List.length bd) : Nat) : Int) ≤ (768 : Int))) = Bool.true), (((Int.tmod (((List.length bd) : Nat) : Int) (96 : Int)) == (0 : Int)) = Bool.false)]) := by kernel_rfl
theorem rr_8 (kd ep fr wh tp rd : Int) (bd : List Int)
    (h1 : ((decide (ep < (0 : Int))) = Bool.false))
    (h2 : ((decide (ep > (1048576 : Int))) = Bool.false))
    (h3 : ((decide (fr < (1 : Int))) = Bool.false))
    (h4 : ((decide (fr > (9 : Int))) = Bool.false))
    (h5 : ((decide (rd < (0 : Int))) = Bool.false))
    (h6 : ((decide (rd > (1099511627776 : Int))) = Bool.false))
    (h7 : ((decide (kd ≥ (1 : Int))) = Bool.false))
    (h8 : ((wh != (0 : Int)) = Bool.false))
    (h9 : ((tp != (0 : Int)) = Bool.false))
    (h10 : ((kd == (4 : Int)) = Bool.false))
    (h11 : ((kd == (5 : Int)) = Bool.false))
    (h12 : ((rd == (0 : Int)) = Bool.false))
    (h13 : ((kd == (6 : Int)) = Bool.false))
    (h14 : ((kd == (7 : Int)) = Bool.true))
    (h15 : (((((List.length bd) : Nat) : Int) == (0 : Int)) = Bool.false))
    (h16 : ((kd == (8 : Int)) = Bool.true))
    (h17 : ((decide ((((List.length bd) : Nat) : Int) > (0 : Int))) = Bool.true))
    (h18 : ((decide ((((List.length bd) : Nat) : Int) ≤ (768 : Int))) = Bool.true))
    (h19 : (((Int.tmod (((List.length bd) : Nat) : Int) (96 : Int)) == (0 : Int)) = Bool.false)) :
    ∃ ps, runF Try.prog D0 [] 200 Try.f15 [.agg (msgP kd ep fr wh tp rd bd)] [.is false, .is false, .is false, .is false, .is false, .is false, .is false, .is false, .is false, .is false, .is false, .is false, .is false, .is true, .is false, .is true, .is true, .is true, .is false] = some ((Go.Abs.AV.v (Go.Abs.A0.one (Go.Abs.Part.bool Bool.true Bool.false))), ps) ∧ AllQ ps := ⟨_, rr_8_r kd ep fr wh tp rd bd, AllP.all ⟨h1, h2, h3, h4, h5, h6, h7, h8, h9, h10, h11, h12, h13, h14, h15, h16, h17, h18, h19⟩⟩

theorem rr_9_r (kd ep fr wh tp rd : Int) (bd : List Int) : runF Try.prog D0 [] 200 Try.f15 [.agg (msgP kd ep fr wh tp rd bd)] [.is false, .is false, .is false, .is false, .is false, .is false, .is false, .is false, .is false, .is false, .is false, .is false, .is false, .is true, .is false, .is true, .is true, .is true, .is true] =
    some ((Go.Abs.AV.v (Go.Abs.A0.one (Go.Abs.Part.bool Bool.true Bool.true))), [((decide (ep < (0 : Int))) = Bool.false), ((decide (ep > (1048576 : Int))) = Bool.false), ((decide (fr < (1 : Int))) = Bool.false), ((decide (fr > (9 : Int))) = Bool.false), ((decide (rd < (0 : Int))) = Bool.false), ((decide (rd > (1099511627776 : Int))) = Bool.false), ((decide (kd ≥ (1 : Int))) = Bool.false), ((wh != (0 : Int)) = Bool.false), ((tp != (0 : Int)) = Bool.false), ((kd == (4 : Int)) = Bool.false), ((kd == (5 : Int)) = Bool.false), ((rd == (0 : Int)) = Bool.false), ((kd == (6 : Int)) = Bool.false), ((kd == (7 : Int)) = Bool.true), (((((List.length bd) : Nat) : Int) == (0 : Int)) = Bool.false), ((kd == (8 : Int)) = Bool.true), ((decide ((((List.length bd) : Nat) : Int) > (0 : Int))) = Bool.true), ((decide ((((List.length bd) : Nat) : Int) ≤ (768 : Int))) = Bool.true), (((Int.tmod (((List.length bd) : Nat) : Int) (96 : Int)) == (0 : Int)) = Bool.true)]) := by kernel_rfl
theorem rr_9 (kd ep fr wh tp rd : Int) (bd : List Int)
    (h1 : ((decide (ep < (0 : Int))) = Bool.false))
    (h2 : ((decide (ep > (1048576 : Int))) = Bool.false))
    (h3 : ((decide (fr < (1 : Int))) = Bool.false))
    (h4 : ((decide (fr > (9 : Int))) = Bool.false))
    (h5 : ((decide (rd < (0 : Int))) = Bool.false))
    (h6 : ((decide (rd > (1099511627776 : Int))) = Bool.false))
    (h7 : ((decide (kd ≥ (1 : Int))) = Bool.false))
    (h8 : ((wh != (0 : Int)) = Bool.false))
    (h9 : ((tp != (0 : Int)) = Bool.false))
    (h10 : ((kd == (4 : Int)) = Bool.false))
    (h11 : ((kd == (5 : Int)) = Bool.false))
    (h12 : ((rd == (0 : Int)) = Bool.false))
    (h13 : ((kd == (6 : Int)) = Bool.false))
    (h14 : ((kd == (7 : Int)) = Bool.true))
    (h15 : (((((List.length bd) : Nat) : Int) == (0 : Int)) = Bool.false))
    (h16 : ((kd == (8 : Int)) = Bool.true))
    (h17 : ((decide ((((List.length bd) : Nat) : Int) > (0 : Int))) = Bool.true))
    (h18 : ((decide ((((List.length bd) : Nat) : Int) ≤ (768 : Int))) = Bool.true))
    (h19 : (((Int.tmod (((List.length bd) : Nat) : Int) (96 : Int)) == (0 : Int)) = Bool.true)) :
    ∃ ps, runF Try.prog D0 [] 200 Try.f15 [.agg (msgP kd ep fr wh tp rd bd)] [.is false, .is false, .is false, .is false, .is false, .is false, .is false, .is false, .is false, .is false, .is false, .is false, .is false, .is true, .is false, .is true, .is true, .is true, .is true] = some ((Go.Abs.AV.v (Go.Abs.A0.one (Go.Abs.Part.bool Bool.true Bool.true))), ps) ∧ AllQ ps := ⟨_, rr_9_r kd ep fr wh tp rd bd, AllP.all ⟨h1, h2, h3, h4, h5, h6, h7, h8, h9, h10, h11, h12, h13, h14, h15, h16, h17, h18, h19⟩⟩

theorem rr_10_r (kd ep fr wh tp rd : Int) (bd : List Int) : runF Try.prog D0 [] 200 Try.f15 [.agg (msgP kd ep fr wh tp rd bd)] [.is false, .is false, .is false, .is false, .is false, .is false, .is false, .is false, .is false, .is false, .is false, .is false, .is false, .is true, .is true] =
    some ((Go.Abs.AV.v (Go.Abs.A0.one (Go.Abs.Part.bool Bool.true Bool.true))), [((decide (ep < (0 : Int))) = Bool.false), ((decide (ep > (1048576 : Int))) = Bool.false), ((decide (fr < (1 : Int))) = Bool.false), ((decide (fr > (9 : Int))) = Bool.false), ((decide (rd < (0 : Int))) = Bool.false), ((decide (rd > (1099511627776 : Int))) = Bool.false), ((decide (kd ≥ (1 : Int))) = Bool.false), ((wh != (0 : Int)) = Bool.false), ((tp != (0 : Int)) = Bool.false), ((kd == (4 : Int)) = Bool.false), ((kd == (5 : Int)) = Bool.false), ((rd == (0 : Int)) = Bool.false), ((kd == (6 : Int)) = Bool.false), ((kd == (7 : Int)) = Bool.true), (((((List.length bd) : Nat) : Int) == (0 : Int)) = Bool.true)]) := by kernel_rfl
theorem rr_10 (kd ep fr wh tp rd : Int) (bd : List Int)
    (h1 : ((decide (ep < (0 : Int))) = Bool.false))
    (h2 : ((decide (ep > (1048576 : Int))) = Bool.false))
    (h3 : ((decide (fr < (1 : Int))) = Bool.false))
    (h4 : ((decide (fr > (9 : Int))) = Bool.false))
    (h5 : ((decide (rd < (0 : Int))) = Bool.false))
    (h6 : ((decide (rd > (1099511627776 : Int))) = Bool.false))
    (h7 : ((decide (kd ≥ (1 : Int))) = Bool.false))
    (h8 : ((wh != (0 : Int)) = Bool.false))
    (h9 : ((tp != (0 : Int)) = Bool.false))
    (h10 : ((kd == (4 : Int)) = Bool.false))
    (h11 : ((kd == (5 : Int)) = Bool.false))
    (h12 : ((rd == (0 : Int)) = Bool.false))
    (h13 : ((kd == (6 : Int)) = Bool.false))
    (h14 : ((kd == (7 : Int)) = Bool.true))
    (h15 : (((((List.length bd) : Nat) : Int) == (0 : Int)) = Bool.true)) :
    ∃ ps, runF Try.prog D0 [] 200 Try.f15 [.agg (msgP kd ep fr wh tp rd bd)] [.is false, .is false, .is false, .is false, .is false, .is false, .is false, .is false, .is false, .is false, .is false, .is false, .is false, .is true, .is true] = some ((Go.Abs.AV.v (Go.Abs.A0.one (Go.Abs.Part.bool Bool.true Bool.true))), ps) ∧ AllQ ps := ⟨_, rr_10_r kd ep fr wh tp rd bd, AllP.all ⟨h1, h2, h3, h4, h5, h6, h7, h8, h9, h10, h11, h12, h13, h14, h15⟩⟩

theorem rr_11_r (kd ep fr wh tp rd : Int) (bd : List Int) : runF Try.prog D0 [] 200 Try.f15 [.agg (msgP kd ep fr wh tp rd bd)] [.is false, .is false, .is false, .is false, .is false, .is false, .is false, .is false, .is false, .is false, .is false, .is false, .is true, .is false, .is false, .is false] =
    some ((Go.Abs.AV.v (Go.Abs.A0.one (Go.Abs.Part.bool Bool.true Bool.false))), [((decide (ep < (0 : Int))) = Bool.false), ((decide (ep > (1048576 : Int))) = Bool.false), ((decide (fr < (1 : Int))) = Bool.false), ((decide (fr > (9 : Int))) = Bool.false), ((decide (rd < (0 : Int))) = Bool.false), ((decide (rd > (1099511627776 : Int))) = Bool.false), ((decide (kd ≥ (1 : Int))) = Bool.false), ((wh != (0 : Int)) = Bool.false), ((tp != (0 : Int)) = Bool.false), ((kd == (4 : Int)) = Bool.false), ((kd == (5 : Int)) = Bool.false), ((rd == (0 : Int)) = Bool.false), ((kd == (6 : Int)) = Bool.true), (((((List.length bd) : Nat) : Int) == (96 : Int)) = Bool.false), ((kd == (7 : Int)) = Bool.false), ((kd == (8 : Int)) = Bool.false)]) := by kernel_rfl
theorem rr_11 (kd ep fr wh tp rd : Int) (bd : List Int)
    (h1 : ((decide (ep < (0 : Int))) = Bool.false))
    (h2 : ((decide (ep > (1048576 : Int))) = Bool.false))
    (h3 : ((decide (fr < (1 : Int))) = Bool.false))
    (h4 : ((decide (fr > (9 : Int))) = Bool.false))
    (h5 : ((decide (rd < (0 : Int))) = Bool.false))
    (h6 : ((decide (rd > (1099511627776 : Int))) = Bool.false))
    (h7 : ((decide (kd ≥ (1 : Int))) = Bool.false))
    (h8 : ((wh != (0 : Int)) = Bool.false))
    (h9 : ((tp != (0 : Int)) = Bool.false))
    (h10 : ((kd == (4 : Int)) = Bool.false))
    (h11 : ((kd == (5 : Int)) = Bool.false))
    (h12 : ((rd == (0 : Int)) = Bool.false))
    (h13 : ((kd == (6 : Int)) = Bool.true))
    (h14 : (((((List.length bd) : Nat) : Int) == (96 : Int)) = Bool.false))
    (h15 : ((kd == (7 : Int)) = Bool.false))
    (h16 : ((kd == (8 : Int)) = Bool.false)) :
    ∃ ps, runF Try.prog D0 [] 200 Try.f15 [.agg (msgP kd ep fr wh tp rd bd)] [.is false, .is false, .is false, .is false, .is false, .is false, .is false, .is false, .is false, .is false, .is false, .is false, .is true, .is false, .is false, .is false] = some ((Go.Abs.AV.v (Go.Abs.A0.one (Go.Abs.Part.bool Bool.true Bool.false))), ps) ∧ AllQ ps := ⟨_, rr_11_r kd ep fr wh tp rd bd, AllP.all ⟨h1, h2, h3, h4, h5, h6, h7, h8, h9, h10, h11, h12, h13, h14, h15, h16⟩⟩

theorem rr_12_r (kd ep fr wh tp rd : Int) (bd : List Int) : runF Try.prog D0 [] 200 Try.f15 [.agg (msgP kd ep fr wh tp rd bd)] [.is false, .is false, .is false, .is false, .is false, .is false, .is false, .is false, .is false, .is false, .is false, .is false, .is true, .is false, .is false, .is true, .is false] =
    some ((Go.Abs.AV.v (Go.Abs.A0.one (Go.Abs.Part.bool Bool.true Bool.false))), [((decide (ep < (0 : Int))) = Bool.false), ((decide (ep > (1048576 : Int))) = Bool.false), ((decide (fr < (1 : Int))) = Bool.false), ((decide (fr > (9 : Int))) = Bool.false), ((decide (rd < (0 : Int))) = Bool.false), ((decide (rd > (1099511627776 : Int))) = Bool.false), ((decide (kd ≥ (1 : Int))) = Bool.false), ((wh != (0 : Int)) = Bool.false), ((tp != (0 : Int)) = Bool.false), ((kd == (4 : Int)) = Bool.false), ((kd == (5 : Int)) = Bool.false), ((rd == (0 : Int)) = Bool.false), ((kd == (6 : Int)) = Bool.true), (((((List.length bd) : Nat) : Int) == (96 : Int)) = Bool.false), ((kd == (7 : Int)) = Bool.false), ((kd == (8 : Int)) = Bool.true), ((decide ((((List.length bd) : Nat) : Int) > (0 : Int))) = Bool.false)]) := by kernel_rfl
theorem rr_12 (kd ep fr wh tp rd : Int) (bd : List Int)
    (h1 : ((decide (ep < (0 : Int))) = Bool.false))
    (h2 : ((decide (ep > (1048576 : Int))) = Bool.false))
    (h3 : ((decide (fr < (1 : Int))) = Bool.false))
    (h4 : ((decide (fr > (9 : Int))) = Bool.false))
    (h5 : ((decide (rd < (0 : Int))) = Bool.false))
    (h6 : ((decide (rd > (1099511627776 : Int))) = Bool.false))
    (h7 : ((decide (kd ≥ (1 : Int))) = Bool.false))
    (h8 : ((wh != (0 : Int)) = Bool.false))
    (h9 : ((tp != (0 : Int)) = Bool.false))
    (h10 : ((kd == (4 : Int)) = Bool.false))
    (h11 : ((kd == (5 : Int)) = Bool.false))
    (h12 : ((rd == (0 : Int)) = Bool.false))
    (h13 : ((kd == (6 : Int)) = Bool.true))
    (h14 : (((((List.length bd) : Nat) : Int) == (96 : Int)) = Bool.false))
    (h15 : ((kd == (7 : Int)) = Bool.false))
    (h16 : ((kd == (8 : Int)) = Bool.true))
    (h17 : ((decide ((((List.length bd) : Nat) : Int) > (0 : Int))) = Bool.false)) :
    ∃ ps, runF Try.prog D0 [] 200 Try.f15 [.agg (msgP kd ep fr wh tp rd bd)] [.is false, .is false, .is false, .is false, .is false, .is false, .is false, .is false, .is false, .is false, .is false, .is false, .is true, .is false, .is false, .is true, .is false] = some ((Go.Abs.AV.v (Go.Abs.A0.one (Go.Abs.Part.bool Bool.true Bool.false))), ps) ∧ AllQ ps := ⟨_, rr_12_r kd ep fr wh tp rd bd, AllP.all ⟨h1, h2, h3, h4, h5, h6, h7, h8, h9, h10, h11, h12, h13, h14, h15, h16, h17⟩⟩

theorem rr_13_r (kd ep fr wh tp rd : Int) (bd : List Int) : runF Try.prog D0 [] 200 Try.f15 [.agg (msgP kd ep fr wh tp rd bd)] [.is false, .is false, .is false, .is false, .is false, .is false, .is false, .is false, .is false, .is false, .is false, .is false, .is true, .is false, .is false, .is true, .is true, .is false] =
    some ((Go.Abs.AV.v (Go.Abs.A0.one (Go.Abs.Part.bool Bool.true Bool.false))), [((decide (ep < (0 : Int))) = Bool.false), ((decide (ep > (1048576 : Int))) = Bool.false), ((decide (fr < (1 : Int))) = Bool.false), ((decide (fr > (9 : Int))) = Bool.false), ((decide (rd < (0 : Int))) = Bool.false), ((decide (rd > (1099511627776 : Int))) = Bool.false), ((decide (kd ≥ (1 : Int))) = Bool.false), ((wh != (0 : Int)) = Bool.false), ((tp != (0 : Int)) = Bool.false), ((kd == (4 : Int)) = Bool.false), ((kd == (5 : Int)) = Bool.false), ((rd == (0 : Int)) = Bool.false), ((kd == (6 : Int)) = Bool.true), (((((List.length bd) : Nat) : Int) == (96 : Int)) = Bool.false), ((kd == (7 : Int)) = Bool.false), ((kd == (8 : Int)) = Bool.true), ((decide ((((List.length bd) : Nat) : Int) > (0 : Int))) = Bool.true), ((decide ((((List.length bd) : Nat) : Int) ≤ (768 : Int))) = Bool.false)]) := by kernel_rfl
theorem rr_13 (kd ep fr wh tp rd : Int) (bd : List Int)
    (h1 : ((decide (ep < (0 : Int))) = Bool.false))
    (h2 : ((decide (ep > (1048576 : Int))) = Bool.false))
    (h3 : ((decide (fr < (1 : Int))) = Bool.false))
    (h4 : ((decide (fr > (9 : Int))) = Bool.false))
    (h5 : ((decide (rd < (0 : Int))) = Bool.false))
    (h6 : ((decide (rd > (1099511627776 : Int))) = Bool.false))
    (h7 : ((decide (kd ≥ (1 : Int))) = Bool.false))
    (h8 : ((wh != (0 : Int)) = Bool.false))
    (h9 : ((tp != (0 : Int)) = Bool.false))
    (h10 : ((kd == (4 : Int)) = Bool.false))
    (h11 : ((kd == (5 : Int)) = Bool.false))
    (h12 : ((rd == (0 : Int)) = Bool.false))
    (h13 : ((kd == (6 : Int)) = Bool.true))
    (h14 : (((((List.length bd) : Nat) : Int) == (96 : Int)) = Bool.false))
    (h15 : ((kd == (7 : Int)) = Bool.false))
    (h16 : ((kd == (8 : Int)) = Bool.true))
    (h17 : ((decide ((((List.length bd) : Nat) : Int) > (0 : Int))) = Bool.true))
    (h18 : ((decide ((((List.length bd) : Nat) : Int) ≤ (768 : Int))) = Bool.false)) :
    ∃ ps, runF Try.prog D0 [] 200 Try.f15 [.agg (msgP kd ep fr wh tp rd bd)] [.is false, .is false, .is false, .is false, .is false, .is false, .is false, .is false, .is false, .is false, .is false, .is false, .is true, .is false, .is false, .is true, .is true, .is false] = some ((Go.Abs.AV.v (Go.Abs.A0.one (Go.Abs.Part.bool Bool.true Bool.false))), ps) ∧ AllQ ps := ⟨_, rr_13_r kd ep fr wh tp rd bd, AllP.all ⟨h1, h2, h3, h4, h5, h6, h7, h8, h9, h10, h11, h12, h13, h14, h15, h16, h17, h18⟩⟩

theorem rr_14_r (kd ep fr wh tp rd : Int) (bd : List Int) : runF Try.prog D0 [] 200 Try.f15 [.agg (msgP kd ep fr wh tp rd bd)] [.is false, .is false, .is false, .is false, .is false, .is false, .is false, .is false, .is false, .is false, .is false, .is false, .is true, .is false, .is false, .is true, .is true, .is true, .is false] =
    some ((Go.Abs.AV.v (Go.Abs.A0.one (Go.Abs.Part.bool Bool.true Bool.false))), [((decide (ep < (0 : Int))) = Bool.false), ((decide (ep > (1048576 : Int))) = Bool.false), ((decide (fr < (1 : Int))) = Bool.false), ((decide (fr > (9 : Int))) = Bool.false), ((decide (rd < (0 : Int))) = Bool.false), ((decide (rd > (1099511627776 : Int))) = Bool.false), ((decide (kd ≥ (1 : Int))) = Bool.false), ((wh != (0 : Int)) = Bool.false), ((tp != (0 : Int)) = Bool.false), ((kd == (4 : Int)) = Bool.false), ((kd == (5 : Int)) = Bool.false), ((rd == (0 : Int)) = Bool.false), ((kd == (6 : Int)) = Bool.true), (((((List.length bd) : Nat) : Int) == (96 : Int)) = Bool.false), ((kd == (7 : Int)) = Bool.false), ((kd == (8 : Int)) = Bool.true), ((decide ((((List.length bd) : Nat) : Int) > (0 : Int))) = Bool.true), ((decide ((((List.length bd) : Nat) : Int) ≤ (768 : Int))) = Bool.true), (((Int.tmod (((List.length bd) : Nat) : Int) (96 : Int)) == (0 : Int)) = Bool.false)]) := by kernel_rfl
theorem rr_14 (kd ep fr wh tp rd : Int) (bd : List Int)
    (h1 : ((decide (ep < (0 : Int))) = Bool.false))
    (h2 : ((decide (ep > (1048576 : Int))) = Bool.false))
    (h3 : ((decide (fr < (1 : Int))) = Bool.false))
    (h4 : ((decide (fr > (9 : Int))) = Bool.false))
    (h5 : ((decide (rd < (0 : Int))) = Bool.false))
    (h6 : ((decide (rd > (1099511627776 : Int))) = Bool.false))
    (h7 : ((decide (kd ≥ (1 : Int))) = Bool.false))
    (h8 : ((wh != (0 : Int)) = Bool.false))
    (h9 : ((tp != (0 : Int)) = Bool.false))
    (h10 : ((kd == (4 : Int)) = Bool.false))
    (h11 : ((kd == (5 : Int)) = Bool.false))
    (h12 : ((rd == (0 : Int)) = Bool.false))
    (h13 : ((kd == (6 : Int)) = Bool.true))
    (h14 : (((((List.length bd) : Nat) : Int) == (96 : Int)) = Bool.false))
    (h15 : ((kd == (7 : Int)) = Bool.false))
    (h16 : ((kd == (8 : Int)) = Bool.true))
    (h17 : ((decide ((((List.length bd) : Nat) : Int) > (0 : Int))) = Bool.true))
    (h18 : ((decide ((((List.length bd) : Nat) : Int) ≤ (768 : Int))) = Bool.true))
    (h19 : (((Int.tmod (((List.length bd) : Nat) : Int) (96 : Int)) == (0 : Int)) = Bool.false)) :
    ∃ ps, runF Try.prog D0 [] 200 Try.f15 [.agg (msgP kd ep fr wh tp rd bd)] [.is false, .is false, .is false, .is false, .is false, .is false, .is false, .is false, .is false, .is false, .is false, .is false, .is true, .is false, .is false, .is true, .is true, .is true, .is false] = some ((Go.Abs.AV.v (Go.Abs.A0.one (Go.Abs.Part.bool Bool.true Bool.false))), ps) ∧ AllQ ps := ⟨_, rr_14_r kd ep fr wh tp rd bd, AllP.all ⟨h1, h2, h3, h4, h5, h6, h7, h8, h9, h10, h11, h12, h13, h14, h15, h16, h17, h18, h19⟩⟩

theorem rr_15_r (kd ep fr wh tp rd : Int) (bd : List Int) : runF Try.prog D0 [] 200 Try.f15 [.agg (msgP kd ep fr wh tp rd bd)] [.is false, .is false, .is false, .is false, .is false, .is false, .is false, .is false, .is false, .is false, .is false, .is false, .is true, .is false, .is false, .is true, .is true, .is true, .is true] =
    some ((Go.Abs.AV.v (Go.Abs.A0.one (Go.Abs.Part.bool Bool.true Bool.true))), [((decide (ep < (0 : Int))) = Bool.false), ((decide (ep > (1048576 : Int))) = Bool.false), ((decide (fr < (1 : Int))) = Bool.false), ((decide (fr > (9 : Int))) = Bool.false), ((decide (rd < (0 : Int))) = Bool.false), ((decide (rd > (1099511627776 : Int))) = Bool.false), ((decide (kd ≥ (1 : Int))) = Bool.false), ((wh != (0 : Int)) = Bool.false), ((tp != (0 : Int)) = Bool.false), ((kd == (4 : Int)) = Bool.false), ((kd == (5 : Int)) = Bool.false), ((rd == (0 : Int)) = Bool.false), ((kd == (6 : Int)) = Bool.true), (((((List.length bd) : Nat) : Int) == (96 : Int)) = Bool.false), ((kd == (7 : Int)) = Bool.false), ((kd == (8 : Int)) = Bool.true), ((decide ((((List.length bd) : Nat) : Int) > (0 : Int))) = Bool.true), ((decide ((((List.length bd) : Nat) : Int) ≤ (768 : Int))) = Bool.true), (((Int.tmod (((List.length bd) : Nat) : Int) (96 : Int)) == (0 : Int)) = Bool.true)]) := by kernel_rfl
theorem rr_15 (kd ep fr wh tp rd : Int) (bd : List Int)
    (h1 : ((decide (ep < (0 : Int))) = Bool.false))
    (h2 : ((decide (ep > (1048576 : Int))) = Bool.false))
    (h3 : ((decide (fr < (1 : Int))) = Bool.false))
    (h4 : ((decide (fr > (9 : Int))) = Bool.false))
    (h5 : ((decide (rd < (0 : Int))) = Bool.false))
    (h6 : ((decide (rd > (1099511627776 : Int))) = Bool.false))
    (h7 : ((decide (kd ≥ (1 : Int))) = Bool.false))
    (h8 : ((wh != (0 : Int)) = Bool.false))
    (h9 : ((tp != (0 : Int)) = Bool.false))
    (h10 : ((kd == (4 : Int)) = Bool.false))
    (h11 : ((kd == (5 : Int)) = Bool.false))
    (h12 : ((rd == (0 : Int)) = Bool.false))
    (h13 : ((kd == (6 : Int)) = Bool.true))
    (h14 : (((((List.length bd) : Nat) : Int) == (96 : Int)) = Bool.false))
    (h15 : ((kd == (7 : Int)) = Bool.false))
    (h16 : ((kd == (8 : Int)) = Bool.true))
    (h17 : ((decide ((((List.length bd) : Nat) : Int) > (0 : Int))) = Bool.true))
    (h18 : ((decide ((((List.length bd) : Nat) : Int) ≤ (768 : Int))) = Bool.true))
    (h19 : (((Int.tmod (((List.length bd) : Nat) : Int) (96 : Int)) == (0 : Int)) = Bool.true)) :
    ∃ ps, runF Try.prog D0 [] 200 Try.f15 [.agg (msgP kd ep fr wh tp rd bd)] [.is false, .is false, .is false, .is false, .is false, .is false, .is false, .is false, .is false, .is false, .is false, .is false, .is true, .is false, .is false, .is true, .is true, .is true, .is true] = some ((Go.Abs.AV.v (Go.Abs.A0.one (Go.Abs.Part.bool Bool.true Bool.true))), ps) ∧ AllQ ps := ⟨_, rr_15_r kd ep fr wh tp rd bd, AllP.all ⟨h1, h2, h3, h4, h5, h6, h7, h8, h9, h10, h11, h12, h13, h14, h15, h16, h17, h18, h19⟩⟩

theorem rr_16_r (kd ep fr wh tp rd : Int) (bd : List Int) : runF Try.prog D0 [] 200 Try.f15 [.agg (msgP kd ep fr wh tp rd bd)] [.is false, .is false, .is false, .is false, .is false, .is false, .is false, .is false, .is false, .is false, .is false, .is false, .is true, .is false, .is true, .is false, .is false] =
    some ((Go.Abs.AV.v (Go.Abs.A0.one (Go.Abs.Part.bool Bool.true Bool.false))), [((decide (ep < (0 : Int))) = Bool.false), ((decide (ep > (1048576 : Int))) = Bool.false), ((decide (fr < (1 : Int))) = Bool.false), ((decide (fr > (9 : Int))) = Bool.false), ((decide (rd < (0 : Int))) = Bool.false), ((decide (rd > (1099511627776 : Int))) = Bool.false), ((decide (kd ≥ (1 : Int))) = Bool.false), ((wh != (0 : Int)) = Bool.false), ((tp != (0 : Int)) = Bool.false), ((kd == (4 : Int)) = Bool.false), ((kd == (5 : Int)) = Bool.false), ((rd == (0 : Int)) = Bool.false), ((kd == (6 : Int)) = Bool.true), (((((List.length bd) : Nat) : Int) == (96 : Int)) = Bool.false), ((kd == (7 : Int)) = Bool.true), (((((List.length bd) : Nat) : Int) == (0 : Int)) = Bool.false), ((kd == (8 : Int)) = Bool.false)]) := by kernel_rfl
theorem rr_16 (kd ep fr wh tp rd : Int) (bd : List Int)
    (h1 : ((decide (ep < (0 : Int))) = Bool.false))
    (h2 : ((decide (ep > (1048576 : Int))) = Bool.false))
    (h3 : ((decide (fr < (1 : Int))) = Bool.false))
    (h4 : ((decide (fr > (9 : Int))) = Bool.false))
    (h5 : ((decide (rd < (0 : Int))) = Bool.false))
    (h6 : ((decide (rd > (1099511627776 : Int))) = Bool.false))
    (h7 : ((decide (kd ≥ (1 : Int))) = Bool.false))
    (h8 : ((wh != (0 : Int)) = Bool.false))
    (h9 : ((tp != (0 : Int)) = Bool.false))
    (h10 : ((kd == (4 : Int)) = Bool.false))
    (h11 : ((kd == (5 : Int)) = Bool.false))
    (h12 : ((rd == (0 : Int)) = Bool.false))
    (h13 : ((kd == (6 : Int)) = Bool.true))
    (h14 : (((((List.length bd) : Nat) : Int) == (96 : Int)) = Bool.false))
    (h15 : ((kd == (7 : Int)) = Bool.true))
    (h16 : (((((List.length bd) : Nat) : Int) == (0 : Int)) = Bool.false))
    (h17 : ((kd == (8 : Int)) = Bool.false)) :
    ∃ ps, runF Try.prog D0 [] 200 Try.f15 [.agg (msgP kd ep fr wh tp rd bd)] [.is false, .is false, .is false, .is false, .is false, .is false, .is false, .is false, .is false, .is false, .is false, .is false, .is true, .is false, .is true, .is false, .is false] = some ((Go.Abs.AV.v (Go.Abs.A0.one (Go.Abs.Part.bool Bool.true Bool.false))), ps) ∧ AllQ ps := ⟨_, rr_16_r kd ep fr wh tp rd bd, AllP.all ⟨h1, h2, h3, h4, h5, h6, h7, h8, h9, h10, h11, h12, h13, h14, h15, h16, h17⟩⟩

theorem rr_17_r (kd ep fr wh tp rd : Int) (bd : List Int) : runF Try.prog D0 [] 200 Try.f15 [.agg (msgP kd ep fr wh tp rd bd)] [.is false, .is false, .is false, .is false, .is false, .is false, .is false, .is false, .is false, .is false, .is false, .is false, .is true, .is false, .is true, .is false, .is true, .is false] =
    some ((Go.Abs.AV.v (Go.Abs.A0.one (Go.Abs.Part.bool Bool.true Bool.false))), [((decide (ep < (0 : Int))) = Bool.false), ((decide (ep > (1048576 : Int))) = Bool.false), ((decide (fr < (1 : Int))) = Bool.false), ((decide (fr > (9 : Int))) = Bool.false), ((decide (rd < (0 : Int))) = Bool.false), ((decide (rd > (1099511627776 : Int))) = Bool.false), ((decide (kd ≥ (1 : Int))) = Bool.false), ((wh != (0 : Int)) = Bool.false), ((tp != (0 : Int)) = Bool.false), ((kd == (4 : Int)) = Bool.false), ((kd == (5 : Int)) = Bool.false), ((rd == (0 : Int)) = Bool.false), ((kd == (6 : Int)) = Bool.true), (((((List.length bd) : Nat) : Int) == (96 : Int)) = Bool.false), ((kd == (7 : Int)) = Bool.true), (((((List.length bd) : Nat) : Int) == (0 : Int)) = Bool.false), ((kd == (8 : Int)) = Bool.true), ((decide ((((List.length bd) : Nat) : Int) > (0 : Int))) = Bool.false)]) := by kernel_rfl
theorem rr_17 (kd ep fr wh tp rd : Int) (bd : List Int)
    (h1 : ((decide (ep < (0 : Int))) = Bool.false))
    (h2 : ((decide (ep > (1048576 : Int))) = Bool.false))
    (h3 : ((decide (fr < (1 : Int))) = Bool.false))
    (h4 : ((decide (fr > (9 : Int))) = Bool.false))
    (h5 : ((decide (rd < (0 : Int))) = Bool.false))
    (h6 : ((decide (rd > (1099511627776 : Int))) = Bool.false))
    (h7 : ((decide (kd ≥ (1 : Int))) = Bool.false))
    (h8 : ((wh != (0 : Int)) = Bool.false))
    (h9 : ((tp != (0 : Int)) = Bool.false))
    (h10 : ((kd == (4 : Int)) = Bool.false))
    (h11 : ((kd == (5 : Int)) = Bool.false))
    (h12 : ((rd == (0 : Int)) = Bool.false))
    (h13 : ((kd == (6 : Int)) = Bool.true))
    (h14 : (((((List.length bd) : Nat) : Int) == (96 : Int)) = Bool.false))
    (h15 : ((kd == (7 : Int)) = Bool.true))
    (h16 : (((((List.length bd) : Nat) : Int) == (0 : Int)) = Bool.false))
    (h17 : ((kd == (8 : Int)) = Bool.true))
    (h18 : ((decide ((((List.length bd) : Nat) : Int) > (0 : Int))) = Bool.false)) :
    ∃ ps, runF Try.prog D0 [] 200 Try.f15 [.agg (msgP kd ep fr wh tp rd bd)] [.is false, .is false, .is false, .is false, .is false, .is false, .is false, .is false, .is false, .is false, .is false, .is false, .is true, .is false, .is true, .is false, .is true, .is false] = some ((Go.Abs.AV.v (Go.Abs.A0.one (Go.Abs.Part.bool Bool.true Bool.false))), ps) ∧ AllQ ps := ⟨_, rr_17_r kd ep fr wh tp rd bd, AllP.all ⟨h1, h2, h3, h4, h5, h6, h7, h8, h9, h10, h11, h12, h13, h14, h15, h16, h17, h18⟩⟩

theorem rr_18_r (kd ep fr wh tp rd : Int) (bd : List Int) : runF Try.prog D0 [] 200 Try.f15 [.agg (msgP kd ep fr wh tp rd bd)] [.is false, .is false, .is false, .is false, .is false, .is false, .is false, .is false, .is false, .is false, .is false, .is false, .is true, .is false, .is true, .is false, .is true, .is true, .is false] =
    some ((Go.Abs.AV.v (Go.Abs.A0.one (Go.Abs.Part.bool Bool.true Bool.false))), [((decide (ep < (0 : Int))) = Bool.false), ((decide (ep > (1048576 : Int))) = Bool.false), ((decide (fr < (1 : Int))) = Bool.false), ((decide (fr > (9 : Int))) = Bool.false), ((decide (rd < (0 : Int))) = Bool.false), ((decide (rd > (1099511627776 : Int))) = Bool.false), ((decide (kd ≥ (1 : Int))) = Bool.false), ((wh != (0 : Int)) = Bool.false), ((tp != (0 : Int)) = Bool.false), ((kd == (4 : Int)) = Bool.false), ((kd == (5 : Int)) = Bool.false), ((rd == (0 : Int)) = Bool.false), ((kd == (6 : Int)) = Bool.true), (((((List.length bd) : Nat) : Int) == (96 : Int)) = Bool.false), ((kd == (7 : Int)) = Bool.true), (((((List.length bd) : Nat) : Int) == (0 : Int)) = Bool.false), ((kd == (8 : Int)) = Bool.true), ((decide ((((List.length bd) : Nat) : Int) > (0 : Int))) = Bool.true), ((decide ((((List.length bd) : Nat) : Int) ≤ (768 : Int))) = Bool.false)]) := by kernel_rfl
theorem rr_18 (kd ep fr wh tp rd : Int) (bd : List Int)
    (h1 : ((decide (ep < (0 : Int))) = Bool.false))
    (h2 : ((decide (ep > (1048576 : Int))) = Bool.false))
    (h3 : ((decide (fr < (1 : Int))) = Bool.false))
    (h4 : ((decide (fr > (9 : Int))) = Bool.false))
    (h5 : ((decide (rd < (0 : Int))) = Bool.false))
    (h6 : ((decide (rd > (1099511627776 : Int))) = Bool.false))
    (h7 : ((decide (kd ≥ (1 : Int))) = Bool.false))
    (h8 : ((wh != (0 : Int)) = Bool.false))
    (h9 : ((tp != (0 : Int)) = Bool.false))
    (h10 : ((kd == (4 : Int)) = Bool.false))
    (h11 : ((kd == (5 : Int)) = Bool.false))
    (h12 : ((rd == (0 : Int)) = Bool.false))
    (h13 : ((kd == (6 : Int)) = Bool.true))
    (h14 : (((((List.length bd) : Nat) : Int) == (96 : Int)) = Bool.false))
    (h15 : ((kd == (7 : Int)) = Bool.true))
    (h16 : (((((List.length bd) : Nat) : Int) == (0 : Int)) = Bool.false))
    (h17 : ((kd == (8 : Int)) = Bool.true))
    (h18 : ((decide ((((List.length bd) : Nat) : Int) > (0 : Int))) = Bool.true))
    (h19 : ((decide ((((List.length bd) : Nat) : Int) ≤ (768 : Int))) = Bool.false)) :
    ∃ ps, runF Try.prog D0 [] 200 Try.f15 [.agg (msgP kd ep fr wh tp rd bd)] [.is false, .is false, .is false, .is false, .is false, .is false, .is false, .is false, .is false, .is false, .is false, .is false, .is true, .is false, .is true, .is false, .is true, .is true, .is false] = some ((Go.Abs.AV.v (Go.Abs.A0.one (Go.Abs.Part.bool Bool.true Bool.false))), ps) ∧ AllQ ps := ⟨_, rr_18_r kd ep fr wh tp rd bd, AllP.all ⟨h1, h2, h3, h4, h5, h6, h7, h8, h9, h10, h11, h12, h13, h14, h15, h16, h17, h18, h19⟩⟩

theorem rr_19_r (kd ep fr wh tp rd : Int) (bd : List Int) : runF Try.prog D0 [] 200 Try.f15 [.agg (msgP kd ep fr wh tp rd bd)] [.is false, .is false, .is false, .is false, .is false, .is false, .is false, .is false, .is false, .is false, .is false, .is false, .is true, .is false, .is true, .is false, .is true, .is true, .is true, .is false] =
    some ((Go.Abs.AV.v (Go.Abs.A0.one (Go.Abs.Part.bool Bool.true Bool.false))), [((decide (ep < (0 : Int))) = Bool.false), ((decide (ep > (1048576 : Int))) = Bool.false), ((decide (fr < (1 : Int))) = Bool.false), ((decide (fr > (9 : Int))) = Bool.false), ((decide (rd < (0 : Int))) = Bool.false), ((decide (rd > (1099511627776 : Int))) = Bool.false), ((decide (kd ≥ (1 : Int))) = Bool.false), ((wh != (0 : Int)) = Bool.false), ((tp != (0 : Int)) = Bool.false), ((kd == (4 : Int)) = Bool.false), ((kd == (5 : Int)) = Bool.false), ((rd == (0 : Int)) = Bool.false), ((kd == (6 : Int)) = Bool.true), (((((List.length bd) : Nat) : Int) == (96 : Int)) = Bool.false), ((kd == (7 : Int)) = Bool.true), (((((List.length bd) : Nat) : Int) == (0 : Int)) = Bool.false), ((kd == (8 : Int)) = Bool.true), ((decide ((((List.length bd) : Nat) : Int) > (0 : Int))) = Bool.true), ((decide ((((List.length bd) : Nat) : Int) ≤ (768 : Int))) = Bool.true), (((Int.tmod (((List.length bd) : Nat) : Int) (96 : Int)) == (0 : Int)) = Bool.false)]) := by kernel_rfl
theorem rr_19 (kd ep fr wh tp rd : Int) (bd : List Int)
    (h1 : ((decide (ep < (0 : Int))) = Bool.false))
    (h2 : ((decide (ep > (1048576 : Int))) = Bool.false))
    (h3 : ((decide (fr < (1 : Int))) = Bool.false))
    (h4 : ((decide (fr > (9 : Int))) = Bool.false))
    (h5 : ((decide (rd < (0 : Int))) = Bool.false))
    (h6 : ((decide (rd > (1099511627776 : Int))) = Bool.false))
    (h7 : ((decide (kd ≥ (1 : Int))) = Bool.false))
    (h8 : ((wh != (0 : Int)) = Bool.false))
    (h9 : ((tp != (0 : Int)) = Bool.false))
    (h10 : ((kd == (4 : Int)) = Bool.false))
    (h11 : ((kd == (5 : Int)) = Bool.false))
    (h12 : ((rd == (0 : Int)) = Bool.false))
    (h13 : ((kd == (6 : Int)) = Bool.true))
    (h14 : (((((List.length bd) : Nat) : Int) == (96 : Int)) = Bool.false))
    (h15 : ((kd == (7 : Int)) = Bool.true))
    (h16 : (((((List.length bd) : Nat) : Int) == (0 : Int)) = Bool.false))
    (h17 : ((kd == (8 : Int)) = Bool.true))
    (h18 : ((decide ((((List.length bd) : Nat) : Int) > (0 : Int))) = Bool.true))
    (h19 : ((decide ((((List.length bd) : Nat) : Int) ≤ (768 : Int))) = Bool.true))
    (h20 : (((Int.tmod (((List.length bd) : Nat) : Int) (96 : Int)) == (0 : Int)) = Bool.false)) :
    ∃ ps, runF Try.prog D0 [] 200 Try.f15 [.agg (msgP kd ep fr wh tp rd bd)] [.is false, .is false, .is false, .is false, .is false, .is false, .is false, .is false, .is false, .is false, .is false, .is false, .is true, .is false, .is true, .is false, .is true, .is true, .is true, .is false] = some ((Go.Abs.AV.v (Go.Abs.A0.one (Go.Abs.Part.bool Bool.true Bool.false))), ps) ∧ AllQ ps := ⟨_, rr_19_r kd ep fr wh tp rd bd, AllP.all ⟨h1, h2, h3, h4, h5, h6, h7, h8, h9, h10, h11, h12, h13, h14, h15, h16, h17, h18, h19, h20⟩⟩

theorem rr_20_r (kd ep fr wh tp rd : Int) (bd : List Int) : runF Try.prog D0 [] 200 Try.f15 [.agg (msgP kd ep fr wh tp rd bd)] [.is false, .is false, .is false, .is false, .is false, .is false, .is false, .is false, .is false, .is false, .is false, .is false, .is true, .is false, .is true, .is false, .is true, .is true, .is true, .is true] =
    some ((Go.Abs.AV.v (Go.Abs.A0.one (Go.Abs.Part.bool Bool.true Bool.true))), [((decide (ep < (0 : Int))) = Bool.false), ((decide (ep > (1048576 : Int))) = Bool.false), ((decide (fr < (1 : Int))) = Bool.false), ((decide (fr > (9 : Int))) = Bool.false), ((decide (rd < (0 : Int))) = Bool.false), ((decide (rd > (1099511627776 : Int))) = Bool.false), ((decide (kd ≥ (1 : Int))) = Bool.false), ((wh != (0 : Int)) = Bool.false), ((tp != (0 : Int)) = Bool.false), ((kd == (4 : Int)) = Bool.false), ((kd == (5 : Int)) = Bool.false), ((rd == (0 : Int)) = Bool.false), ((kd == (6 : Int)) = Bool.true), (((((List.length bd) : Nat) : Int) == (96 : Int)) = Bool.false), ((kd == (7 : Int)) = Bool.true), (((((List.length bd) : Nat) : Int) == (0 : Int)) = Bool.false), ((kd == (8 : Int)) = Bool.true), ((decide ((((List.length bd) : Nat) : Int) > (0 : Int))) = Bool.true), ((decide ((((List.length bd) : Nat) : Int) ≤ (768 : Int))) = Bool.true), (((Int.tmod (((List.length bd) : Nat) : Int) (96 : Int)) == (0 : Int)) = Bool.true)]) := by kernel_rfl
theorem rr_20 (kd ep fr wh tp rd : Int) (bd : List Int)
    (h1 : ((decide (ep < (0 : Int))) = Bool.false))
    (h2 : ((decide (ep > (1048576 : Int))) = Bool.false))
    (h3 : ((decide (fr < (1 : Int))) = Bool.false))
    (h4 : ((decide (fr > (9 : Int))) = Bool.false))
    (h5 : ((decide (rd < (0 : Int))) = Bool.false))
    (h6 : ((decide (rd > (1099511627776 : Int))) = Bool.false))
    (h7 : ((decide (kd ≥ (1 : Int))) = Bool.false))
    (h8 : ((wh != (0 : Int)) = Bool.false))
    (h9 : ((tp != (0 : Int)) = Bool.false))
    (h10 : ((kd == (4 : Int)) = Bool.false))
    (h11 : ((kd == (5 : Int)) = Bool.false))
    (h12 : ((rd == (0 : Int)) = Bool.false))
    (h13 : ((kd == (6 : Int)) = Bool.true))
    (h14 : (((((List.length bd) : Nat) : Int) == (96 : Int)) = Bool.false))
    (h15 : ((kd == (7 : Int)) = Bool.true))
    (h16 : (((((List.length bd) : Nat) : Int) == (0 : Int)) = Bool.false))
    (h17 : ((kd == (8 : Int)) = Bool.true))
    (h18 : ((decide ((((List.length bd) : Nat) : Int) > (0 : Int))) = Bool.true))
    (h19 : ((decide ((((List.length bd) : Nat) : Int) ≤ (768 : Int))) = Bool.true))
    (h20 : (((Int.tmod (((List.length bd) : Nat) : Int) (96 : Int)) == (0 : Int)) = Bool.true)) :
    ∃ ps, runF Try.prog D0 [] 200 Try.f15 [.agg (msgP kd ep fr wh tp rd bd)] [.is false, .is false, .is false, .is false, .is false, .is false, .is false, .is false, .is false, .is false, .is false, .is false, .is true, .is false, .is true, .is false, .is true, .is true, .is true, .is true] = some ((Go.Abs.AV.v (Go.Abs.A0.one (Go.Abs.Part.bool Bool.true Bool.true))), ps) ∧ AllQ ps := ⟨_, rr_20_r kd ep fr wh tp rd bd, AllP.all ⟨h1, h2, h3, h4, h5, h6, h7, h8, h9, h10, h11, h12, h13, h14, h15, h16, h17, h18, h19, h20⟩⟩

theorem rr_21_r (kd ep fr wh tp rd : Int) (bd : List Int) : runF Try.prog D0 [] 200 Try.f15 [.agg (msgP kd ep fr wh tp rd bd)] [.is false, .is false, .is false, .is false, .is false, .is false, .is false, .is false, .is false, .is false, .is false, .is false, .is true, .is false, .is true, .is true] =
    some ((Go.Abs.AV.v (Go.Abs.A0.one (Go.Abs.Part.bool Bool.true Bool.true))), [((decide (ep < (0 : Int))) = Bool.false), ((decide (ep > (1048576 : Int))) = Bool.false), ((decide (fr < (1 : Int))) = Bool.false), ((decide (fr > (9 : Int))) = Bool.false), ((decide (rd < (0 : Int))) = Bool.false), ((decide (rd > (1099511627776 : Int))) = Bool.false), ((decide (kd ≥ (1 : Int))) = Bool.false), ((wh != (0 : Int)) = Bool.false), ((tp != (0 : Int)) = Bool.false), ((kd == (4 : Int)) = Bool.false), ((kd == (5 : Int)) = Bool.false), ((rd == (0 : Int)) = Bool.false), ((kd == (6 : Int)) = Bool.true), (((((List.length bd) : Nat) : Int) == (96 : Int)) = Bool.false), ((kd == (7 : Int)) = Bool.true), (((((List.length bd) : Nat) : Int) == (0 : Int)) = Bool.true)]) := by kernel_rfl
theorem rr_21 (kd ep fr wh tp rd : Int) (bd : List Int)
    (h1 : ((decide (ep < (0 : Int))) = Bool.false))
    (h2 : ((decide (ep > (1048576 : Int))) = Bool.false))
    (h3 : ((decide (fr < (1 : Int))) = Bool.false))
    (h4 : ((decide (fr > (9 : Int))) = Bool.false))
    (h5 : ((decide (rd < (0 : Int))) = Bool.false))
    (h6 : ((decide (rd > (1099511627776 : Int))) = Bool.false))
    (h7 : ((decide (kd ≥ (1 : Int))) = Bool.false))
    (h8 : ((wh != (0 : Int)) = Bool.false))
    (h9 : ((tp != (0 : Int)) = Bool.false))
    (h10 : ((kd == (4 : Int)) = Bool.false))
    (h11 : ((kd == (5 : Int)) = Bool.false))
    (h12 : ((rd == (0 : Int)) = Bool.false))
    (h13 : ((kd == (6 : Int)) = Bool.true))
    (h14 : (((((List.length bd) : Nat) : Int) == (96 : Int)) = Bool.false))
    (h15 : ((kd == (7 : Int)) = Bool.true))
    (h16 : (((((List.length bd) : Nat) : Int) == (0 : Int)) = Bool.true)) :
    ∃ ps, runF Try.prog D0 [] 200 Try.f15 [.agg (msgP kd ep fr wh tp rd bd)] [.is false, .is false, .is false, .is false, .is false, .is false, .is false, .is false, .is false, .is false, .is false, .is false, .is true, .is false, .is true, .is true] = some ((Go.Abs.AV.v (Go.Abs.A0.one (Go.Abs.Part.bool Bool.true Bool.true))), ps) ∧ AllQ ps := ⟨_, rr_21_r kd ep fr wh tp rd bd, AllP.all ⟨h1, h2, h3, h4, h5, h6, h7, h8, h9, h10, h11, h12, h13, h14, h15, h16⟩⟩

theorem rr_22_r (kd ep fr wh tp rd : Int) (bd : List Int) : runF Try.prog D0 [] 200 Try.f15 [.agg (msgP kd ep fr wh tp rd bd)] [.is false, .is false, .is false, .is false, .is false, .is false, .is false, .is false, .is false, .is false, .is false, .is false, .is true, .is true] =
    some ((Go.Abs.AV.v (Go.Abs.A0.one (Go.Abs.Part.bool Bool.true Bool.true))), [((decide (ep < (0 : Int))) = Bool.false), ((decide (ep > (1048576 : Int))) = Bool.false), ((decide (fr < (1 : Int))) = Bool.false), ((decide (fr > (9 : Int))) = Bool.false), ((decide (rd < (0 : Int))) = Bool.false), ((decide (rd > (1099511627776 : Int))) = Bool.false), ((decide (kd ≥ (1 : Int))) = Bool.false), ((wh != (0 : Int)) = Bool.false), ((tp != (0 : Int)) = Bool.false), ((kd == (4 : Int)) = Bool.false), ((kd == (5 : Int)) = Bool.false), ((rd == (0 : Int)) = Bool.false), ((kd == (6 : Int)) = Bool.true), (((((List.length bd) : Nat) : Int) == (96 : Int)) = Bool.true)]) := by kernel_rfl
theorem rr_22 (kd ep fr wh tp rd : Int) (bd : List Int)
    (h1 : ((decide (ep < (0 : Int))) = Bool.false))
    (h2 : ((decide (ep > (1048576 : Int))) = Bool.false))
    (h3 : ((decide (fr < (1 : Int))) = Bool.false))
    (h4 : ((decide (fr > (9 : Int))) = Bool.false))
    (h5 : ((decide (rd < (0 : Int))) = Bool.false))
    (h6 : ((decide (rd > (1099511627776 : Int))) = Bool.false))
    (h7 : ((decide (kd ≥ (1 : Int))) = Bool.false))
    (h8 : ((wh != (0 : Int)) = Bool.false))
    (h9 : ((tp != (0 : Int)) = Bool.false))
    (h10 : ((kd == (4 : Int)) = Bool.false))
    (h11 : ((kd == (5 : Int)) = Bool.false))
    (h12 : ((rd == (0 : Int)) = Bool.false))
    (h13 : ((kd == (6 : Int)) = Bool.true))
    (h14 : (((((List.length bd) : Nat) : Int) == (96 : Int)) = Bool.true)) :
    ∃ ps, runF Try.prog D0 [] 200 Try.f15 [.agg (msgP kd ep fr wh tp rd bd)] [.is false, .is false, .is false, .is false, .is false, .is false, .is false, .is false, .is false, .is false, .is false, .is false, .is true, .is true] = some ((Go.Abs.AV.v (Go.Abs.A0.one (Go.Abs.Part.bool Bool.true Bool.true))), ps) ∧ AllQ ps := ⟨_, rr_22_r kd ep fr wh tp rd bd, AllP.all ⟨h1, h2, h3, h4, h5, h6, h7, h8, h9, h10, h11, h12, h13, h14⟩⟩

theorem rr_23_r (kd ep fr wh tp rd : Int) (bd : List Int) : runF Try.prog D0 [] 200 Try.f15 [.agg (msgP kd ep fr wh tp rd bd)] [.is false, .is false, .is false, .is false, .is false, .is false, .is false, .is false, .is false, .is false, .is false, .is true] =
    some ((Go.Abs.AV.v (Go.Abs.A0.one (Go.Abs.Part.bool Bool.true Bool.false))), [((decide (ep < (0 : Int))) = Bool.false), ((decide (ep > (1048576 : Int))) = Bool.false), ((decide (fr < (1 : Int))) = Bool.false), ((decide (fr > (9 : Int))) = Bool.false), ((decide (rd < (0 : Int))) = Bool.false), ((decide (rd > (1099511627776 : Int))) = Bool.false), ((decide (kd ≥ (1 : Int))) = Bool.false), ((wh != (0 : Int)) = Bool.false), ((tp != (0 : Int)) = Bool.false), ((kd == (4 : Int)) = Bool.false), ((kd == (5 : Int)) = Bool.false), ((rd == (0 : Int)) = Bool.true)]) := by kernel_rfl
theorem rr_23 (kd ep fr wh tp rd : Int) (bd : List Int)
    (h1 : ((decide (ep < (0 : Int))) = Bool.false))
    (h2 : ((decide (ep > (1048576 : Int))) = Bool.false))
    (h3 : ((decide (fr < (1 : Int))) = Bool.false))
    (h4 : ((decide (fr > (9 : Int))) = Bool.false))
    (h5 : ((decide (rd < (0 : Int))) = Bool.false))
    (h6 : ((decide (rd > (1099511627776 : Int))) = Bool.false))
    (h7 : ((decide (kd ≥ (1 : Int))) = Bool.false))
    (h8 : ((wh != (0 : Int)) = Bool.false))
    (h9 : ((tp != (0 : Int)) = Bool.false))
    (h10 : ((kd == (4 : Int)) = Bool.false))
    (h11 : ((kd == (5 : Int)) = Bool.false))
    (h12 : ((rd == (0 : Int)) = Bool.true)) :
    ∃ ps, runF Try.prog D0 [] 200 Try.f15 [.agg (msgP kd ep fr wh tp rd bd)] [.is false, .is false, .is false, .is false, .is false, .is false, .is false, .is false, .is false, .is false, .is false, .is true] = some ((Go.Abs.AV.v (Go.Abs.A0.one (Go.Abs.Part.bool Bool.true Bool.false))), ps) ∧ AllQ ps := ⟨_, rr_23_r kd ep fr wh tp rd bd, AllP.all ⟨h1, h2, h3, h4, h5, h6, h7, h8, h9, h10, h11, h12⟩⟩

theorem rr_24_r (kd ep fr wh tp rd : Int) (bd : List Int) : runF Try.prog D0 [] 200 Try.f15 [.agg (msgP kd ep fr wh tp rd bd)] [.is false, .is false, .is false, .is false, .is false, .is false, .is false, .is false, .is false, .is false, .is true, .is false] =
    some ((Go.Abs.AV.v (Go.Abs.A0.one (Go.Abs.Part.bool Bool.true Bool.false))), [((decide (ep < (0 : Int))) = Bool.false), ((decide (ep > (1048576 : Int))) = Bool.false), ((decide (fr < (1 : Int))) = Bool.false), ((decide (fr > (9 : Int))) = Bool.false), ((decide (rd < (0 : Int))) = Bool.false), ((decide (rd > (1099511627776 : Int))) = Bool.false), ((decide (kd ≥ (1 : Int))) = Bool.false), ((wh != (0 : Int)) = Bool.false), ((tp != (0 : Int)) = Bool.false), ((kd == (4 : Int)) = Bool.false), ((kd == (5 : Int)) = Bool.true), ((rd == (0 : Int)) = Bool.false)]) := by kernel_rfl
theorem rr_24 (kd ep fr wh tp rd : Int) (bd : List Int)
    (h1 : ((decide (ep < (0 : Int))) = Bool.false))
    (h2 : ((decide (ep > (1048576 : Int))) = Bool.false))
    (h3 : ((decide (fr < (1 : Int))) = Bool.false))
    (h4 : ((decide (fr > (9 : Int))) = Bool.false))
    (h5 : ((decide (rd < (0 : Int))) = Bool.false))
    (h6 : ((decide (rd > (1099511627776 : Int))) = Bool.false))
    (h7 : ((decide (kd ≥ (1 : Int))) = Bool.false))
    (h8 : ((wh != (0 : Int)) = Bool.false))
    (h9 : ((tp != (0 : Int)) = Bool.false))
    (h10 : ((kd == (4 : Int)) = Bool.false))
    (h11 : ((kd == (5 : Int)) = Bool.true))
    (h12 : ((rd == (0 : Int)) = Bool.false)) :
    ∃ ps, runF Try.prog D0 [] 200 Try.f15 [.agg (msgP kd ep fr wh tp rd bd)] [.is false, .is false, .is false, .is false, .is false, .is false, .is false, .is false, .is false, .is false, .is true, .is false] = some ((Go.Abs.AV.v (Go.Abs.A0.one (Go.Abs.Part.bool Bool.true Bool.false))), ps) ∧ AllQ ps := ⟨_, rr_24_r kd ep fr wh tp rd bd, AllP.all ⟨h1, h2, h3, h4, h5, h6, h7, h8, h9, h10, h11, h12⟩⟩

theorem rr_25_r (kd ep fr wh tp rd : Int) (bd : List Int) : runF Try.prog D0 [] 200 Try.f15 [.agg (msgP kd ep fr wh tp rd bd)] [.is false, .is false, .is false, .is false, .is false, .is false, .is false, .is false, .is false, .is false, .is true, .is true, .is false] =
    some ((Go.Abs.AV.v (Go.Abs.A0.one (Go.Abs.Part.bool Bool.true Bool.false))), [((decide (ep < (0 : Int))) = Bool.false), ((decide (ep > (1048576 : Int))) = Bool.false), ((decide (fr < (1 : Int))) = Bool.false), ((decide (fr > (9 : Int))) = Bool.false), ((decide (rd < (0 : Int))) = Bool.false), ((decide (rd > (1099511627776 : Int))) = Bool.false), ((decide (kd ≥ (1 : Int))) = Bool.false), ((wh != (0 : Int)) = Bool.false), ((tp != (0 : Int)) = Bool.false), ((kd == (4 : Int)) = Bool.false), ((kd == (5 : Int)) = Bool.true), ((rd == (0 : Int)) = Bool.true), (((((List.length bd) : Nat) : Int) == (32 : Int)) = Bool.false)]) := by kernel_rfl
theorem rr_25 (kd ep fr wh tp rd : Int) (bd : List Int)
    (h1 : ((decide (ep < (0 : Int))) = Bool.false))
    (h2 : ((decide (ep > (1048576 : Int))) = Bool.false))
    (h3 : ((decide (fr < (1 : Int))) = Bool.false))
    (h4 : ((decide (fr > (9 : Int))) = Bool.false))
    (h5 : ((decide (rd < (0 : Int))) = Bool.false))
    (h6 : ((decide (rd > (1099511627776 : Int))) = Bool.false))
    (h7 : ((decide (kd ≥ (1 : Int))) = Bool.false))
    (h8 : ((wh != (0 : Int)) = Bool.false))
    (h9 : ((tp != (0 : Int)) = Bool.false))
    (h10 : ((kd == (4 : Int)) = Bool.false))
    (h11 : ((kd == (5 : Int)) = Bool.true))
    (h12 : ((rd == (0 : Int)) = Bool.true))
    (h13 : (((((List.length bd) : Nat) : Int) == (32 : Int)) = Bool.false)) :
    ∃ ps, runF Try.prog D0 [] 200 Try.f15 [.agg (msgP kd ep fr wh tp rd bd)] [.is false, .is false, .is false, .is false, .is false, .is false, .is false, .is false, .is false, .is false, .is true, .is true, .is false] = some ((Go.Abs.AV.v (Go.Abs.A0.one (Go.Abs.Part.bool Bool.true Bool.false))), ps) ∧ AllQ ps := ⟨_, rr_25_r kd ep fr wh tp rd bd, AllP.all ⟨h1, h2, h3, h4, h5, h6, h7, h8, h9, h10, h11, h12, h13⟩⟩

theorem rr_26_r (kd ep fr wh tp rd : Int) (bd : List Int) : runF Try.prog D0 [] 200 Try.f15 [.agg (msgP kd ep fr wh tp rd bd)] [.is false, .is false, .is false, .is false, .is false, .is false, .is false, .is false, .is false, .is false, .is true, .is true, .is true] =
    some ((Go.Abs.AV.v (Go.Abs.A0.one (Go.Abs.Part.bool Bool.true Bool.true))), [((decide (ep < (0 : Int))) = Bool.false), ((decide (ep > (1048576 : Int))) = Bool.false), ((decide (fr < (1 : Int))) = Bool.false), ((decide (fr > (9 : Int))) = Bool.false), ((decide (rd < (0 : Int))) = Bool.false), ((decide (rd > (1099511627776 : Int))) = Bool.false), ((decide (kd ≥ (1 : Int))) = Bool.false), ((wh != (0 : Int)) = Bool.false), ((tp != (0 : Int)) = Bool.false), ((kd == (4 : Int)) = Bool.false), ((kd == (5 : Int)) = Bool.true), ((rd == (0 : Int)) = Bool.true), (((((List.length bd) : Nat) : Int) == (32 : Int)) = Bool.true)]) := by kernel_rfl
theorem rr_26 (kd ep fr wh tp rd : Int) (bd : List Int)
    (h1 : ((decide (ep < (0 : Int))) = Bool.false))
    (h2 : ((decide (ep > (1048576 : Int))) = Bool.false))
    (h3 : ((decide (fr < (1 : Int))) = Bool.false))
    (h4 : ((decide (fr > (9 : Int))) = Bool.false))
    (h5 : ((decide (rd < (0 : Int))) = Bool.false))
    (h6 : ((decide (rd > (1099511627776 : Int))) = Bool.false))
    (h7 : ((decide (kd ≥ (1 : Int))) = Bool.false))
    (h8 : ((wh != (0 : Int)) = Bool.false))
    (h9 : ((tp != (0 : Int)) = Bool.false))
    (h10 : ((kd == (4 : Int)) = Bool.false))
    (h11 : ((kd == (5 : Int)) = Bool.true))
    (h12 : ((rd == (0 : Int)) = Bool.true))
    (h13 : (((((List.length bd) : Nat) : Int) == (32 : Int)) = Bool.true)) :
    ∃ ps, runF Try.prog D0 [] 200 Try.f15 [.agg (msgP kd ep fr wh tp rd bd)] [.is false, .is false, .is false, .is false, .is false, .is false, .is false, .is false, .is false, .is false, .is true, .is true, .is true] = some ((Go.Abs.AV.v (Go.Abs.A0.one (Go.Abs.Part.bool Bool.true Bool.true))), ps) ∧ AllQ ps := ⟨_, rr_26_r kd ep fr wh tp rd bd, AllP.all ⟨h1, h2, h3, h4, h5, h6, h7, h8, h9, h10, h11, h12, h13⟩⟩

theorem rr_27_r (kd ep fr wh tp rd : Int) (bd : List Int) : runF Try.prog D0 [] 200 Try.f15 [.agg (msgP kd ep fr wh tp rd bd)] [.is false, .is false, .is false, .is false, .is false, .is false, .is false, .is false, .is false, .is true, .is false] =
    some ((Go.Abs.AV.v (Go.Abs.A0.one (Go.Abs.Part.bool Bool.true Bool.false))), [((decide (ep < (0 : Int))) = Bool.false), ((decide (ep > (1048576 : Int))) = Bool.false), ((decide (fr < (1 : Int))) = Bool.false), ((decide (fr > (9 : Int))) = Bool.false), ((decide (rd < (0 : Int))) = Bool.false), ((decide (rd > (1099511627776 : Int))) = Bool.false), ((decide (kd ≥ (1 : Int))) = Bool.false), ((wh != (0 : Int)) = Bool.false), ((tp != (0 : Int)) = Bool.false), ((kd == (4 : Int)) = Bool.true), ((rd == (0 : Int)) = Bool.false)]) := by kernel_rfl
theorem rr_27 (kd ep fr wh tp rd : Int) (bd : List Int)
    (h1 : ((decide (ep < (0 : Int))) = Bool.false))
    (h2 : ((decide (ep > (1048576 : Int))) = Bool.false))
    (h3 : ((decide (fr < (1 : Int))) = Bool.false))
    (h4 : ((decide (fr > (9 : Int))) = Bool.false))
    (h5 : ((decide (rd < (0 : Int))) = Bool.false))
    (h6 : ((decide (rd > (1099511627776 : Int))) = Bool.false))
    (h7 : ((decide (kd ≥ (1 : Int))) = Bool.false))
    (h8 : ((wh != (0 : Int)) = Bool.false))
    (h9 : ((tp != (0 : Int)) = Bool.false))
    (h10 : ((kd == (4 : Int)) = Bool.true))
    (h11 : ((rd == (0 : Int)) = Bool.false)) :
    ∃ ps, runF Try.prog D0 [] 200 Try.f15 [.agg (msgP kd ep fr wh tp rd bd)] [.is false, .is false, .is false, .is false, .is false, .is false, .is false, .is false, .is false, .is true, .is false] = some ((Go.Abs.AV.v (Go.Abs.A0.one (Go.Abs.Part.bool Bool.true Bool.false))), ps) ∧ AllQ ps := ⟨_, rr_27_r kd ep fr wh tp rd bd, AllP.all ⟨h1, h2, h3, h4, h5, h6, h7, h8, h9, h10, h11⟩⟩

theorem rr_28_r (kd ep fr wh tp rd : Int) (bd : List Int) : runF Try.prog D0 [] 200 Try.f15 [.agg (msgP kd ep fr wh tp rd bd)] [.is false, .is false, .is false, .is false, .is false, .is false, .is false, .is false, .is false, .is true, .is true, .is false] =
    some ((Go.Abs.AV.v (Go.Abs.A0.one (Go.Abs.Part.bool Bool.true Bool.false))), [((decide (ep < (0 : Int))) = Bool.false), ((decide (ep > (1048576 : Int))) = Bool.false), ((decide (fr < (1 : Int))) = Bool.false), ((decide (fr > (9 : Int))) = Bool.false), ((decide (rd < (0 : Int))) = Bool.false), ((decide (rd > (1099511627776 : Int))) = Bool.false), ((decide (kd ≥ (1 : Int))) = Bool.false), ((wh != (0 : Int)) = Bool.false), ((tp != (0 : Int)) = Bool.false), ((kd == (4 : Int)) = Bool.true), ((rd == (0 : Int)) = Bool.true), (((((List.length bd) : Nat) : Int) == (32 : Int)) = Bool.false)]) := by kernel_rfl
theorem rr_28 (kd ep fr wh tp rd : Int) (bd : List Int)
    (h1 : ((decide (ep < (0 : Int))) = Bool.false))
    (h2 : ((decide (ep > (1048576 : Int))) = Bool.false))
    (h3 : ((decide (fr < (1 : Int))) = Bool.false))
    (h4 : ((decide (fr > (9 : Int))) = Bool.false))
    (h5 : ((decide (rd < (0 : Int))) = Bool.false))
    (h6 : ((decide (rd > (1099511627776 : Int))) = Bool.false))
    (h7 : ((decide (kd ≥ (1 : Int))) = Bool.false))
    (h8 : ((wh != (0 : Int)) = Bool.false))
    (h9 : ((tp != (0 : Int)) = Bool.false))
    (h10 : ((kd == (4 : Int)) = Bool.true))
    (h11 : ((rd == (0 : Int)) = Bool.true))
    (h12 : (((((List.length bd) : Nat) : Int) == (32 : Int)) = Bool.false)) :
    ∃ ps, runF Try.prog D0 [] 200 Try.f15 [.agg (msgP kd ep fr wh tp rd bd)] [.is false, .is false, .is false, .is false, .is false, .is false, .is false, .is false, .is false, .is true, .is true, .is false] = some ((Go.Abs.AV.v (Go.Abs.A0.one (Go.Abs.Part.bool Bool.true Bool.false))), ps) ∧ AllQ ps := ⟨_, rr_28_r kd ep fr wh tp rd bd, AllP.all ⟨h1, h2, h3, h4, h5, h6, h7, h8, h9, h10, h11, h12⟩⟩

theorem rr_29_r (kd ep fr wh tp rd : Int) (bd : List Int) : runF Try.prog D0 [] 200 Try.f15 [.agg (msgP kd ep fr wh tp rd bd)] [.is false, .is false, .is false, .is false, .is false, .is false, .is false, .is false, .is false, .is true, .is true, .is true] =
    some ((Go.Abs.AV.v (Go.Abs.A0.one (Go.Abs.Part.bool Bool.true Bool.true))), [((decide (ep < (0 : Int))) = Bool.false), ((decide (ep > (1048576 : Int))) = Bool.false), ((decide (fr < (1 : Int))) = Bool.false), ((decide (fr > (9 : Int))) = Bool.false), ((decide (rd < (0 : Int))) = Bool.false), ((decide (rd > (1099511627776 : Int))) = Bool.false), ((decide (kd ≥ (1 : Int))) = Bool.false), ((wh != (0 : Int)) = Bool.false), ((tp != (0 : Int)) = Bool.false), ((kd == (4 : Int)) = Bool.true), ((rd == (0 : Int)) = Bool.true), (((((List.length bd) : Nat) : Int) == (32 : Int)) = Bool.true)]) := by kernel_rfl
theorem rr_29 (kd ep fr wh tp rd : Int) (bd : List Int)
    (h1 : ((decide (ep < (0 : Int))) = Bool.false))
    (h2 : ((decide (ep > (1048576 : Int))) = Bool.false))
    (h3 : ((decide (fr < (1 : Int))) = Bool.false))
    (h4 : ((decide (fr > (9 : Int))) = Bool.false))
    (h5 : ((decide (rd < (0 : Int))) = Bool.false))
    (h6 : ((decide (rd > (1099511627776 : Int))) = Bool.false))
    (h7 : ((decide (kd ≥ (1 : Int))) = Bool.false))
    (h8 : ((wh != (0 : Int)) = Bool.false))
    (h9 : ((tp != (0 : Int)) = Bool.false))
    (h10 : ((kd == (4 : Int)) = Bool.true))
    (h11 : ((rd == (0 : Int)) = Bool.true))
    (h12 : (((((List.length bd) : Nat) : Int) == (32 : Int)) = Bool.true)) :
    ∃ ps, runF Try.prog D0 [] 200 Try.f15 [.agg (msgP kd ep fr wh tp rd bd)] [.is false, .is false, .is false, .is false, .is false, .is false, .is false, .is false, .is false, .is true, .is true, .is true] = some ((Go.Abs.AV.v (Go.Abs.A0.one (Go.Abs.Part.bool Bool.true Bool.true))), ps) ∧ AllQ ps := ⟨_, rr_29_r kd ep fr wh tp rd bd, AllP.all ⟨h1, h2, h3, h4, h5, h6, h7, h8, h9, h10, h11, h12⟩⟩

theorem rr_30_r (kd ep fr wh tp rd : Int) (bd : List Int) : runF Try.prog D0 [] 200 Try.f15 [.agg (msgP kd ep fr wh tp rd bd)] [.is false, .is false, .is false, .is false, .is false, .is false, .is false, .is false, .is true] =
    some ((Go.Abs.AV.v (Go.Abs.A0.one (Go.Abs.Part.bool Bool.true Bool.false))), [((decide (ep < (0 : Int))) = Bool.false), ((decide (ep > (1048576 : Int))) = Bool.false), ((decide (fr < (1 : Int))) = Bool.false), ((decide (fr > (9 : Int))) = Bool.false), ((decide (rd < (0 : Int))) = Bool.false), ((decide (rd > (1099511627776 : Int))) = Bool.false), ((decide (kd ≥ (1 : Int))) = Bool.false), ((wh != (0 : Int)) = Bool.false), ((tp != (0 : Int)) = Bool.true)]) := by kernel_rfl
theorem rr_30 (kd ep fr wh tp rd : Int) (bd : List Int)
    (h1 : ((decide (ep < (0 : Int))) = Bool.false))
    (h2 : ((decide (ep > (1048576 : Int))) = Bool.false))
    (h3 : ((decide (fr < (1 : Int))) = Bool.false))
    (h4 : ((decide (fr > (9 : Int))) = Bool.false))
    (h5 : ((decide (rd < (0 : Int))) = Bool.false))
    (h6 : ((decide (rd > (1099511627776 : Int))) = Bool.false))
    (h7 : ((decide (kd ≥ (1 : Int))) = Bool.false))
    (h8 : ((wh != (0 : Int)) = Bool.false))
    (h9 : ((tp != (0 : Int)) = Bool.true)) :
    ∃ ps, runF Try.prog D0 [] 200 Try.f15 [.agg (msgP kd ep fr wh tp rd bd)] [.is false, .is false, .is false, .is false, .is false, .is false, .is false, .is false, .is true] = some ((Go.Abs.AV.v (Go.Abs.A0.one (Go.Abs.Part.bool Bool.true Bool.false))), ps) ∧ AllQ ps := ⟨_, rr_30_r kd ep fr wh tp rd bd, AllP.all ⟨h1, h2, h3, h4, h5, h6, h7, h8, h9⟩⟩

theorem rr_31_r (kd ep fr wh tp rd : Int) (bd : List Int) : runF Try.prog D0 [] 200 Try.f15 [.agg (msgP kd ep fr wh tp rd bd)] [.is false, .is false, .is false, .is false, .is false, .is false, .is false, .is true] =
    some ((Go.Abs.AV.v (Go.Abs.A0.one (Go.Abs.Part.bool Bool.true Bool.false))), [((decide (ep < (0 : Int))) = Bool.false), ((decide (ep > (1048576 : Int))) = Bool.false), ((decide (fr < (1 : Int))) = Bool.false), ((decide (fr > (9 : Int))) = Bool.false), ((decide (rd < (0 : Int))) = Bool.false), ((decide (rd > (1099511627776 : Int))) = Bool.false), ((decide (kd ≥ (1 : Int))) = Bool.false), ((wh != (0 : Int)) = Bool.true)]) := by kernel_rfl
theorem rr_31 (kd ep fr wh tp rd : Int) (bd : List Int)
    (h1 : ((decide (ep < (0 : Int))) = Bool.false))
    (h2 : ((decide (ep > (1048576 : Int))) = Bool.false))
    (h3 : ((decide (fr < (1 : Int))) = Bool.false))
    (h4 : ((decide (fr > (9 : Int))) = Bool.false))
    (h5 : ((decide (rd < (0 : Int))) = Bool.false))
    (h6 : ((decide (rd > (1099511627776 : Int))) = Bool.false))
    (h7 : ((decide (kd ≥ (1 : Int))) = Bool.false))
    (h8 : ((wh != (0 : Int)) = Bool.true)) :
    ∃ ps, runF Try.prog D0 [] 200 Try.f15 [.agg (msgP kd ep fr wh tp rd bd)] [.is false, .is false, .is false, .is false, .is false, .is false, .is false, .is true] = some ((Go.Abs.AV.v (Go.Abs.A0.one (Go.Abs.Part.bool Bool.true Bool.false))), ps) ∧ AllQ ps := ⟨_, rr_31_r kd ep fr wh tp rd bd, AllP.all ⟨h1, h2, h3, h4, h5, h6, h7, h8⟩⟩

theorem rr_32_r (kd ep fr wh tp rd : Int) (bd : List Int) : runF Try.prog D0 [] 200 Try.f15 [.agg (msgP kd ep fr wh tp rd bd)] [.is false, .is false, .is false, .is false, .is false, .is false, .is true, .is false, .is false, .is false, .is false, .is false, .is false, .is false, .is false, .is false] =
    some ((Go.Abs.AV.v (Go.Abs.A0.one (Go.Abs.Part.bool Bool.true Bool.false))), [((decide (ep < (0 : Int))) = Bool.false), ((decide (ep > (1048576 : Int))) = Bool.false), ((decide (fr < (1 : Int))) = Bool.false), ((decide (fr > (9 : Int))) = Bool.false), ((decide (rd < (0 : Int))) = Bool.false), ((decide (rd > (1099511627776 : Int))) = Bool.false), ((decide (kd ≥ (1 : Int))) = Bool.true), ((decide (kd ≤ (3 : Int))) = Bool.false), ((wh != (0 : Int)) = Bool.false), ((tp != (0 : Int)) = Bool.false), ((kd == (4 : Int)) = Bool.false), ((kd == (5 : Int)) = Bool.false), ((rd == (0 : Int)) = Bool.false), ((kd == (6 : Int)) = Bool.false), ((kd == (7 : Int)) = Bool.false), ((kd == (8 : Int)) = Bool.false)]) := by kernel_rfl
theorem rr_32 (kd ep fr wh tp rd : Int) (bd : List Int)
    (h1 : ((decide (ep < (0 : Int))) = Bool.false))
    (h2 : ((decide (ep > (1048576 : Int))) = Bool.false))
    (h3 : ((decide (fr < (1 : Int))) = Bool.false))
    (h4 : ((decide (fr > (9 : Int))) = Bool.false))
    (h5 : ((decide (rd < (0 : Int))) = Bool.false))
    (h6 : ((decide (rd > (1099511627776 : Int))) = Bool.false))
    (h7 : ((decide (kd ≥ (1 : Int))) = Bool.true))
    (h8 : ((decide (kd ≤ (3 : Int))) = Bool.false))
    (h9 : ((wh != (0 : Int)) = Bool.false))
    (h10 : ((tp != (0 : Int)) = Bool.false))
    (h11 : ((kd == (4 : Int)) = Bool.false))
    (h12 : ((kd == (5 : Int)) = Bool.false))
    (h13 : ((rd == (0 : Int)) = Bool.false))
    (h14 : ((kd == (6 : Int)) = Bool.false))
    (h15 : ((kd == (7 : Int)) = Bool.false))
    (h16 : ((kd == (8 : Int)) = Bool.false)) :
    ∃ ps, runF Try.prog D0 [] 200 Try.f15 [.agg (msgP kd ep fr wh tp rd bd)] [.is false, .is false, .is false, .is false, .is false, .is false, .is true, .is false, .is false, .is false, .is false, .is false, .is false, .is false, .is false, .is false] = some ((Go.Abs.AV.v (Go.Abs.A0.one (Go.Abs.Part.bool Bool.true Bool.false))), ps) ∧ AllQ ps := ⟨_, rr_32_r kd ep fr wh tp rd bd, AllP.all ⟨h1, h2, h3, h4, h5, h6, h7, h8, h9, h10, h11, h12, h13, h14, h15, h16⟩⟩

theorem rr_33_r (kd ep fr wh tp rd : Int) (bd : List Int) : runF Try.prog D0 [] 200 Try.f15 [.agg (msgP kd ep fr wh tp rd bd)] [.is false, .is false, .is false, .is false, .is false, .is false, .is true, .is false, .is false, .is false, .is false, .is false, .is false, .is false, .is false, .is true, .is false] =
    some ((Go.Abs.AV.v (Go.Abs.A0.one (Go.Abs.Part.bool Bool.true Bool.false))), [((decide (ep < (0 : Int))) = Bool.false), ((decide (ep > (1048576 : Int))) = Bool.false), ((decide (fr < (1 : Int))) = Bool.false), ((decide (fr > (9 : Int))) = Bool.false), ((decide (rd < (0 : Int))) = Bool.false), ((decide (rd > (1099511627776 : Int))) = Bool.false), ((decide (kd ≥ (1 : Int))) = Bool.true), ((decide (kd ≤ (3 : Int))) = Bool.false), ((wh != (0 : Int)) = Bool.false), ((tp != (0 : Int)) = Bool.false), ((kd == (4 : Int)) = Bool.false), ((kd == (5 : Int)) = Bool.false), ((rd == (0 : Int)) = Bool.false), ((kd == (6 : Int)) = Bool.false), ((kd == (7 : Int)) = Bool.false), ((kd == (8 : Int)) = Bool.true), ((decide ((((List.length bd) : Nat) : Int) > (0 : Int))) = Bool.false)]) := by kernel_rfl
theorem rr_33 (kd ep fr wh tp rd : Int) (bd : List Int)
    (h1 : ((decide (ep < (0 : Int))) = Bool.false))
    (h2 : ((decide (ep > (1048576 : Int))) = Bool.false))
    (h3 : ((decide (fr < (1 : Int))) = Bool.false))
    (h4 : ((decide (fr > (9 : Int))) = Bool.false))
    (h5 : ((decide (rd < (0 : Int))) = Bool.false))
    (h6 : ((decide (rd > (1099511627776 : Int))) = Bool.false))
    (h7 : ((decide (kd ≥ (1 : Int))) = Bool.true))
    (h8 : ((decide (kd ≤ (3 : Int))) = Bool.false))
    (h9 : ((wh != (0 : Int)) = Bool.false))
    (h10 : ((tp != (0 : Int)) = Bool.false))
    (h11 : ((kd == (4 : Int)) = Bool.false))
    (h12 : ((kd == (5 : Int)) = Bool.false))
    (h13 : ((rd == (0 : Int)) = Bool.false))
    (h14 : ((kd == (6 : Int)) = Bool.false))
    (h15 : ((kd == (7 : Int)) = Bool.false))
    (h16 : ((kd == (8 : Int)) = Bool.true))
    (h17 : ((decide ((((List.length bd) : Nat) : Int) > (0 : Int))) = Bool.false)) :
    ∃ ps, runF Try.prog D0 [] 200 Try.f15 [.agg (msgP kd ep fr wh tp rd bd)] [.is false, .is false, .is false, .is false, .is false, .is false, .is true, .is false, .is false, .is false, .is false, .is false, .is false, .is false, .is false, .is true, .is false] = some ((Go.Abs.AV.v (Go.Abs.A0.one (Go.Abs.Part.bool Bool.true Bool.false))), ps) ∧ AllQ ps := ⟨_, rr_33_r kd ep fr wh tp rd bd, AllP.all ⟨h1, h2, h3, h4, h5, h6, h7, h8, h9, h10, h11, h12, h13, h14, h15, h16, h17⟩⟩

theorem rr_34_r (kd ep fr wh tp rd : Int) (bd : List Int) : runF Try.prog D0 [] 200 Try.f15 [.agg (msgP kd ep fr wh tp rd bd)] [.is false, .is false, .is false, .is false, .is false, .is false, .is true, .is false, .is false, .is false, .is false, .is false, .is false, .is false, .is false, .is true, .is true, .is false] =
    some ((Go.Abs.AV.v (Go.Abs.A0.one (Go.Abs.Part.bool Bool.true Bool.false))), [((decide (ep < (0 : Int))) = Bool.false), ((decide (ep > (1048576 : Int))) = Bool.false), ((decide (fr < (1 : Int))) = Bool.false), ((decide (fr > (9 : Int))) = Bool.false), ((decide (rd < (0 : Int))) = Bool.false), ((decide (rd > (1099511627776 : Int))) = Bool.false), ((decide (kd ≥ (1 : Int))) = Bool.true), ((decide (kd ≤ (3 : Int))) = Bool.false), ((wh != (0 : Int)) = Bool.false), ((tp != (0 : Int)) = Bool.false), ((kd == (4 : Int)) = Bool.false), ((kd == (5 : Int)) = Bool.false), ((rd == (0 : Int)) = Bool.false), ((kd == (6 : Int)) = Bool.false), ((kd == (7 : Int)) = Bool.false), ((kd == (8 : Int)) = Bool.true), ((decide ((((List.length bd) : Nat) : Int) > (0 : Int))) = Bool.true), ((decide ((((List.length bd) : Nat) : Int) ≤ (768 : Int))) = Bool.false)]) := by kernel_rfl
theorem rr_34 (kd ep fr wh tp rd : Int) (bd : List Int)
    (h1 : ((decide (ep < (0 : Int))) = Bool.false))
    (h2 : ((decide (ep > (1048576 : Int))) = Bool.false))
    (h3 : ((decide (fr < (1 : Int))) = Bool.false))
    (h4 : ((decide (fr > (9 : Int))) = Bool.false))
    (h5 : ((decide (rd < (0 : Int))) = Bool.false))
    (h6 : ((decide (rd > (1099511627776 : Int))) = Bool.false))
    (h7 : ((decide (kd ≥ (1 : Int))) = Bool.true))
    (h8 : ((decide (kd ≤ (3 : Int))) = Bool.false))
    (h9 : ((wh != (0 : Int)) = Bool.false))
    (h10 : ((tp != (0 : Int)) = Bool.false))
    (h11 : ((kd == (4 : Int)) = Bool.false))
    (h12 : ((kd == (5 : Int)) = Bool.false))
    (h13 : ((rd == (0 : Int)) = Bool.false))
    (h14 : ((kd == (6 : Int)) = Bool.false))
    (h15 : ((kd == (7 : Int)) = Bool.false))
    (h16 : ((kd == (8 : Int)) = Bool.true))
    (h17 : ((decide ((((List.length bd) : Nat) : Int) > (0 : Int))) = Bool.true))
    (h18 : ((decide ((((List.length bd) : Nat) : Int) ≤ (768 : Int))) = Bool.false)) :
    ∃ ps, runF Try.prog D0 [] 200 Try.f15 [.agg (msgP kd ep fr wh tp rd bd)] [.is false, .is false, .is false, .is false, .is false, .is false, .is true, .is false, .is false, .is false, .is false, .is false, .is false, .is false, .is false, .is true, .is true, .is false] = some ((Go.Abs.AV.v (Go.Abs.A0.one (Go.Abs.Part.bool Bool.true Bool.false))), ps) ∧ AllQ ps := ⟨_, rr_34_r kd ep fr wh tp rd bd, AllP.all ⟨h1, h2, h3, h4, h5, h6, h7, h8, h9, h10, h11, h12, h13, h14, h15, h16, h17, h18⟩⟩

theorem rr_35_r (kd ep fr wh tp rd : Int) (bd : List Int) : runF Try.prog D0 [] 200 Try.f15 [.agg (msgP kd ep fr wh tp rd bd)] [.is false, .is false, .is false, .is false, .is false, .is false, .is true, .is false, .is false, .is false, .is false, .is false, .is false, .is false, .is false, .is true, .is true, .is true, .is false] =
    some ((Go.Abs.AV.v (Go.Abs.A0.one (Go.Abs.Part.bool Bool.true Bool.false))), [((decide (ep < (0 : Int))) = Bool.false), ((decide (ep > (1048576 : Int))) = Bool.false), ((decide (fr < (1 : Int))) = Bool.false), ((decide (fr > (9 : Int))) = Bool.false), ((decide (rd < (0 : Int))) = Bool.false), ((decide (rd > (1099511627776 : Int))) = Bool.false), ((decide (kd ≥ (1 : Int))) = Bool.true), ((decide (kd ≤ (3 : Int))) = Bool.false), ((wh != (0 : Int)) = Bool.false), ((tp != (0 : Int)) = Bool.false), ((kd == (4 : Int)) = Bool.false), ((kd == (5 : Int)) = Bool.false), ((rd == (0 : Int)) = Bool.false), ((kd == (6 : Int)) = Bool.false), ((kd == (7 : Int)) = Bool.false), ((kd == (8 : Int)) = Bool.true), ((decide ((((List.length bd) : Nat) : Int) > (0 : Int))) = Bool.true), ((decide ((((List.length bd) : Nat) : Int) ≤ (768 : Int))) = Bool.true), (((Int.tmod (((List.length bd) : Nat) : Int) (96 : Int)) == (0 : Int)) = Bool.false)]) := by kernel_rfl
theorem rr_35 (kd ep fr wh tp rd : Int) (bd : List Int)
    (h1 : ((decide (ep < (0 : Int))) = Bool.false))
    (h2 : ((decide (ep > (1048576 : Int))) = Bool.false))
    (h3 : ((decide (fr < (1 : Int))) = Bool.false))
    (h4 : ((decide (fr > (9 : Int))) = Bool.false))
    (h5 : ((decide (rd < (0 : Int))) = Bool.false))
    (h6 : ((decide (rd > (1099511627776 : Int))) = Bool.false))
    (h7 : ((decide (kd ≥ (1 : Int))) = Bool.true))
    (h8 : ((decide (kd ≤ (3 : Int))) = Bool.false))
    (h9 : ((wh != (0 : Int)) = Bool.false))
    (h10 : ((tp != (0 : Int)) = Bool.false))
    (h11 : ((kd == (4 : Int)) = Bool.false))
    (h12 : ((kd == (5 : Int)) = Bool.false))
    (h13 : ((rd == (0 : Int)) = Bool.false))
    (h14 : ((kd == (6 : Int)) = Bool.false))
    (h15 : ((kd == (7 : Int)) = Bool.false))
    (h16 : ((kd == (8 : Int)) = Bool.true))
    (h17 : ((decide ((((List.length bd) : Nat) : Int) > (0 : Int))) = Bool.true))
    (h18 : ((decide ((((List.length bd) : Nat) : Int) ≤ (768 : Int))) = Bool.true))
    (h19 : (((Int.tmod (((List.length bd) : Nat) : Int) (96 : Int)) == (0 : Int)) = Bool.false)) :
    ∃ ps, runF Try.prog D0 [] 200 Try.f15 [.agg (msgP kd ep fr wh tp rd bd)] [.is false, .is false, .is false, .is false, .is false, .is false, .is true, .is false, .is false, .is false, .is false, .is false, .is false, .is false, .is false, .is true, .is true, .is true, .is false] = some ((Go.Abs.AV.v (Go.Abs.A0.one (Go.Abs.Part.bool Bool.true Bool.false))), ps) ∧ AllQ ps := ⟨_, rr_35_r kd ep fr wh tp rd bd, AllP.all ⟨h1, h2, h3, h4, h5, h6, h7, h8, h9, h10, h11, h12, h13, h14, h15, h16, h17, h18, h19⟩⟩

theorem rr_36_r (kd ep fr wh tp rd : Int) (bd : List Int) : runF Try.prog D0 [] 200 Try.f15 [.agg (msgP kd ep fr wh tp rd bd)] [.is false, .is false, .is false, .is false, .is false, .is false, .is true, .is false, .is false, .is false, .is false, .is false, .is false, .is false, .is false, .is true, .is true, .is true, .is true] =
    some ((Go.Abs.AV.v (Go.Abs.A0.one (Go.Abs.Part.bool Bool.true Bool.true))), [((decide (ep < (0 : Int))) = Bool.false), ((decide (ep > (1048576 : Int))) = Bool.false), ((decide (fr < (1 : Int))) = Bool.false), ((decide (fr > (9 : Int))) = Bool.false), ((decide (rd < (0 : Int))) = Bool.false), ((decide (rd > (1099511627776 : Int))) = Bool.false), ((decide (kd ≥ (1 : Int))) = Bool.true), ((decide (kd ≤ (3 : Int))) = Bool.false), ((wh != (0 : Int)) = Bool.false), ((tp != (0 : Int)) = Bool.false), ((kd == (4 : Int)) = Bool.false), ((kd == (5 : Int)) = Bool.false), ((rd == (0 : Int)) = Bool.false), ((kd == (6 : Int)) = Bool.false), ((kd == (7 : Int)) = Bool.false), ((kd == (8 : Int)) = Bool.true), ((decide ((((List.length bd) : Nat) : Int) > (0 : Int))) = Bool.true), ((decide ((((List.length bd) : Nat) : Int) ≤ (768 : Int))) = Bool.true), (((Int.tmod (((List.length bd) : Nat) : Int) (96 : Int)) == (0 : Int)) = Bool.true)]) := by kernel_rfl
theorem rr_36 (kd ep fr wh tp rd : Int) (bd : List Int)
    (h1 : ((decide (ep < (0 : Int))) = Bool.false))
    (h2 : ((decide (ep > (1048576 : Int))) = Bool.false))
    (h3 : ((decide (fr < (1 : Int))) = Bool.false))
    (h4 : ((decide (fr > (9 : Int))) = Bool.false))
    (h5 : ((decide (rd < (0 : Int))) = Bool.false))
    (h6 : ((decide (rd > (1099511627776 : Int))) = Bool.false))
    (h7 : ((decide (kd ≥ (1 : Int))) = Bool.true))
    (h8 : ((decide (kd ≤ (3 : Int))) = Bool.false))
    (h9 : ((wh != (0 : Int)) = Bool.false))
    (h10 : ((tp != (0 : Int)) = Bool.false))
    (h11 : ((kd == (4 : Int)) = Bool.false))
    (h12 : ((kd == (5 : Int)) = Bool.false))
    (h13 : ((rd == (0 : Int)) = Bool.false))
    (h14 : ((kd == (6 : Int)) = Bool.false))
    (h15 : ((kd == (7 : Int)) = Bool.false))
    (h16 : ((kd == (8 : Int)) = Bool.true))
    (h17 : ((decide ((((List.length bd) : Nat) : Int) > (0 : Int))) = Bool.true))
    (h18 : ((decide ((((List.length bd) : Nat) : Int) ≤ (768 : Int))) = Bool.true))
    (h19 : (((Int.tmod (((List.length bd) : Nat) : Int) (96 : Int)) == (0 : Int)) = Bool.true)) :
    ∃ ps, runF Try.prog D0 [] 200 Try.f15 [.agg (msgP kd ep fr wh tp rd bd)] [.is false, .is false, .is false, .is false, .is false, .is false, .is true, .is false, .is false, .is false, .is false, .is false, .is false, .is false, .is false, .is true, .is true, .is true, .is true] = some ((Go.Abs.AV.v (Go.Abs.A0.one (Go.Abs.Part.bool Bool.true Bool.true))), ps) ∧ AllQ ps := ⟨_, rr_36_r kd ep fr wh tp rd bd, AllP.all ⟨h1, h2, h3, h4, h5, h6, h7, h8, h9, h10, h11, h12, h13, h14, h15, h16, h17, h18, h19⟩⟩

theorem rr_37_r (kd ep fr wh tp rd : Int) (bd : List Int) : runF Try.prog D0 [] 200 Try.f15 [.agg (msgP kd ep fr wh tp rd bd)] [.is false, .is false, .is false, .is false, .is false, .is false, .is true, .is false, .is false, .is false, .is false, .is false, .is false, .is false, .is true, .is false, .is false] =
    some ((Go.Abs.AV.v (Go.Abs.A0.one (Go.Abs.Part.bool Bool.true Bool.false))), [((decide (ep < (0 : Int))) = Bool.false), ((decide (ep > (1048576 : Int))) = Bool.false), ((decide (fr < (1 : Int))) = Bool.false), ((decide (fr > (9 : Int))) = Bool.false), ((decide (rd < (0 : Int))) = Bool.false), ((decide (rd > (1099511627776 : Int))) = Bool.false), ((decide (kd ≥ (1 : Int))) = Bool.true), ((decide (kd ≤ (3 : Int))) = Bool.false), ((wh != (0 : Int)) = Bool.false), ((tp != (0 : Int)) = Bool.false), ((kd == (4 : Int)) = Bool.false), ((kd == (5 : Int)) = Bool.false), ((rd == (0 : Int)) = Bool.false), ((kd == (6 : Int)) = Bool.false), ((kd == (7 : Int)) = Bool.true), (((((List.length bd) : Nat) : Int) == (0 : Int)) = Bool.false), ((kd == (8 : Int)) = Bool.false)]) := by kernel_rfl
theorem rr_37 (kd ep fr wh tp rd : Int) (bd : List Int)
    (h1 : ((decide (ep < (0 : Int))) = Bool.false))
    (h2 : ((decide (ep > (1048576 : Int))) = Bool.false))
    (h3 : ((decide (fr < (1 : Int))) = Bool.false))
    (h4 : ((decide (fr > (9 : Int))) = Bool.false))
    (h5 : ((decide (rd < (0 : Int))) = Bool.false))
    (h6 : ((decide (rd > (1099511627776 : Int))) = Bool.false))
    (h7 : ((decide (kd ≥ (1 : Int))) = Bool.true))
    (h8 : ((decide (kd ≤ (3 : Int))) = Bool.false))
    (h9 : ((wh != (0 : Int)) = Bool.false))
    (h10 : ((tp != (0 : Int)) = Bool.false))
    (h11 : ((kd == (4 : Int)) = Bool.false))
    (h12 : ((kd == (5 : Int)) = Bool.false))
    (h13 : ((rd == (0 : Int)) = Bool.false))
    (h14 : ((kd == (6 : Int)) = Bool.false))
    (h15 : ((kd == (7 : Int)) = Bool.true))
    (h16 : (((((List.length bd) : Nat) : Int) == (0 : Int)) = Bool.false))
    (h17 : ((kd == (8 : Int)) = Bool.false)) :
    ∃ ps, runF Try.prog D0 [] 200 Try.f15 [.agg (msgP kd ep fr wh tp rd bd)] [.is false, .is false, .is false, .is false, .is false, .is false, .is true, .is false, .is false, .is false, .is false, .is false, .is false, .is false, .is true, .is false, .is false] = some ((Go.Abs.AV.v (Go.Abs.A0.one (Go.Abs.Part.bool Bool.true Bool.false))), ps) ∧ AllQ ps := ⟨_, rr_37_r kd ep fr wh tp rd bd, AllP.all ⟨h1, h2, h3, h4, h5, h6, h7, h8, h9, h10, h11, h12, h13, h14, h15, h16, h17⟩⟩

theorem rr_38_r (kd ep fr wh tp rd : Int) (bd : List Int) : runF Try.prog D0 [] 200 Try.f15 [.agg (msgP kd ep fr wh tp rd bd)] [.is false, .is false, .is false, .is false, .is false, .is false, .is true, .is false, .is false, .is false, .is false, .is false, .is false, .is false, .is true, .is false, .is true, .is false] =
    some ((Go.Abs.AV.v (Go.Abs.A0.one (Go.Abs.Part.bool Bool.true Bool.false))), [((decide (ep < (0 : Int))) = Bool.false), ((decide (ep > (1048576 : Int))) = Bool.false), ((decide (fr < (1 : Int))) = Bool.false), ((decide (fr > (9 : Int))) = Bool.false), ((decide (rd < (0 : Int))) = Bool.false), ((decide (rd > (1099511627776 : Int))) = Bool.false), ((decide (kd ≥ (1 : Int))) = Bool.true), ((decide (kd ≤ (3 : Int))) = Bool.false), ((wh != (0 : Int)) = Bool.false), ((tp != (0 : Int)) = Bool.false), ((kd == (4 : Int)) = Bool.false), ((kd == (5 : Int)) = Bool.false), ((rd == (0 : Int)) = Bool.false), ((kd == (6 : Int)) = Bool.false), ((kd == (7 : Int)) = Bool.true), (((((List.length bd) : Nat) : Int) == (0 : Int)) = Bool.false), ((kd == (8 : Int)) = Bool.true), ((decide ((((List.length bd) : Nat) : Int) > (0 : Int))) = Bool.false)]) := by kernel_rfl
theorem rr_38 (kd ep fr wh tp rd : Int) (bd : List Int)
    (h1 : ((decide (ep < (0 : Int))) = Bool.false))
    (h2 : ((decide (ep > (1048576 : Int))) = Bool.false))
    (h3 : ((decide (fr < (1 : Int))) = Bool.false))
    (h4 : ((decide (fr > (9 : Int))) = Bool.false))
    (h5 : ((decide (rd < (0 : Int))) = Bool.false))
    (h6 : ((decide (rd > (1099511627776 : Int))) = Bool.false))
    (h7 : ((decide (kd ≥ (1 : Int))) = Bool.true))
    (h8 : ((decide (kd ≤ (3 : Int))) = Bool.false))
    (h9 : ((wh != (0 : Int)) = Bool.false))
    (h10 : ((tp != (0 : Int)) = Bool.false))
    (h11 : ((kd == (4 : Int)) = Bool.false))
    (h12 : ((kd == (5 : Int)) = Bool.false))
    (h13 : ((rd == (0 : Int)) = Bool.false))
    (h14 : ((kd == (6 : Int)) = Bool.false))
    (h15 : ((kd == (7 : Int)) = Bool.true))
    (h16 : (((((List.length bd) : Nat) : Int) == (0 : Int)) = Bool.false))
    (h17 : ((kd == (8 : Int)) = Bool.true))
    (h18 : ((decide ((((List.length bd) : Nat) : Int) > (0 : Int))) = Bool.false)) :
    ∃ ps, runF Try.prog D0 [] 200 Try.f15 [.agg (msgP kd ep fr wh tp rd bd)] [.is false, .is false, .is false, .is false, .is false, .is false, .is true, .is false, .is false, .is false, .is false, .is false, .is false, .is false, .is true, .is false, .is true, .is false] = some ((Go.Abs.AV.v (Go.Abs.A0.one (Go.Abs.Part.bool Bool.true Bool.false))), ps) ∧ AllQ ps := ⟨_, rr_38_r kd ep fr wh tp rd bd, AllP.all ⟨h1, h2, h3, h4, h5, h6, h7, h8, h9, h10, h11, h12, h13, h14, h15, h16, h17, h18⟩⟩

theorem rr_39_r (kd ep fr wh tp rd : Int) (bd : List Int) : runF Try.prog D0 [] 200 Try.f15 [.agg (msgP kd ep fr wh tp rd bd)] [.is false, .is false, .is false, .is false, .is false, .is false, .is true, .is false, .is false, .is false, .is false, .is false, .is false, .is false, .is true, .is false, .is true, .is true, .is false] =
    some ((Go.Abs.AV.v (Go.Abs.A0.one (Go.Abs.Part.bool Bool.true Bool.false))), [((decide (ep < (0 : Int))) = Bool.false), ((decide (ep > (1048576 : Int))) = Bool.false), ((decide (fr < (1 : Int))) = Bool.false), ((decide (fr > (9 : Int))) = Bool.false), ((decide (rd < (0 : Int))) = Bool.false), ((decide (rd > (1099511627776 : Int))) = Bool.false), ((decide (kd ≥ (1 : Int))) = Bool.true), ((decide (kd ≤ (3 : Int))) = Bool.false), ((wh != (0 : Int)) = Bool.false), ((tp != (0 : Int)) = Bool.false), ((kd == (4 : Int)) = Bool.false), ((kd == (5 : Int)) = Bool.false), ((rd == (0 : Int)) = Bool.false), ((kd == (6 : Int)) = Bool.false), ((kd == (7 : Int)) = Bool.true), (((((List.length bd) : Nat) : Int) == (0 : Int)) = Bool.false), ((kd == (8 : Int)) = Bool.true), ((decide ((((List.length bd) : Nat) : Int) > (0 : Int))) = Bool.true), ((decide ((((List.length bd) : Nat) : Int) ≤ (768 : Int))) = Bool.false)]) := by kernel_rfl
theorem rr_39 (kd ep fr wh tp rd : Int) (bd : List Int)
    (h1 : ((decide (ep < (0 : Int))) = Bool.false))
    (h2 : ((decide (ep > (1048576 : Int))) = Bool.false))
    (h3 : ((decide (fr < (1 : Int))) = Bool.false))
    (h4 : ((decide (fr > (9 : Int))) = Bool.false))
    (h5 : ((decide (rd < (0 : Int))) = Bool.false))
    (h6 : ((decide (rd > (1099511627776 : Int))) = Bool.false))
    (h7 : ((decide (kd ≥ (1 : Int))) = Bool.true))
    (h8 : ((decide (kd ≤ (3 : Int))) = Bool.false))
    (h9 : ((wh != (0 : Int)) = Bool.false))
    (h10 : ((tp != (0 : Int)) = Bool.false))
    (h11 : ((kd == (4 : Int)) = Bool.false))
    (h12 : ((kd == (5 : Int)) = Bool.false))
    (h13 : ((rd == (0 : Int)) = Bool.false))
    (h14 : ((kd == (6 : Int)) = Bool.false))
    (h15 : ((kd == (7 : Int)) = Bool.true))
    (h16 : (((((List.length bd) : Nat) : Int) == (0 : Int)) = Bool.false))
    (h17 : ((kd == (8 : Int)) = Bool.true))
    (h18 : ((decide ((((List.length bd) : Nat) : Int) > (0 : Int))) = Bool.true))
    (h19 : ((decide ((((List.length bd) : Nat) : Int) ≤ (768 : Int))) = Bool.false)) :
    ∃ ps, runF Try.prog D0 [] 200 Try.f15 [.agg (msgP kd ep fr wh tp rd bd)] [.is false, .is false, .is false, .is false, .is false, .is false, .is true, .is false, .is false, .is false, .is false, .is false, .is false, .is false, .is true, .is false, .is true, .is true, .is false] = some ((Go.Abs.AV.v (Go.Abs.A0.one (Go.Abs.Part.bool Bool.true Bool.false))), ps) ∧ AllQ ps := ⟨_, rr_39_r kd ep fr wh tp rd bd, AllP.all ⟨h1, h2, h3, h4, h5, h6, h7, h8, h9, h10, h11, h12, h13, h14, h15, h16, h17, h18, h19⟩⟩

theorem rr_40_r (kd ep fr wh tp rd : Int) (bd : List Int) : runF Try.prog D0 [] 200 Try.f15 [.agg (msgP kd ep fr wh tp rd bd)] [.is false, .is false, .is false, .is false, .is false, .is false, .is true, .is false, .is false, .is false, .is false, .is false, .is false, .is false, .is true, .is false, .is true, .is true, .is true, .is false] =
    some ((Go.Abs.AV.v (Go.Abs.A0.one (Go.Abs.Part.bool Bool.true Bool.false))), [((decide (ep < (0 : Int))) = Bool.false), ((decide (ep > (1048576 : Int))) = Bool.false), ((decide (fr < (1 : Int))) = Bool.false), ((decide (fr > (9 : Int))) = Bool.false), ((decide (rd < (0 : Int))) = Bool.false), ((decide (rd > (1099511627776 : Int))) = Bool.false), ((decide (kd ≥ (1 : Int))) = Bool.true), ((decide (kd ≤ (3 : Int))) = Bool.false), ((wh != (0 : Int)) = Bool.false), ((tp != (0 : Int)) = Bool.false), ((kd == (4 : Int)) = Bool.false), ((kd == (5 : Int)) = Bool.false), ((rd == (0 : Int)) = Bool.false), ((kd == (6 : Int)) = Bool.false), ((kd == (7 : Int)) = Bool.true), (((((List.length bd) : Nat) : Int) == (0 : Int)) = Bool.false), ((kd == (8 : Int)) = Bool.true), ((decide ((((List.length bd) : Nat) : Int) > (0 : Int))) = Bool.true), ((decide ((((List.length bd) : Nat) : Int) ≤ (768 : Int))) = Bool.true), (((Int.tmod (((List.length bd) : Nat) : Int) (96 : Int)) == (0 : Int)) = Bool.false)]) := by kernel_rfl
theorem rr_40 (kd ep fr wh tp rd : Int) (bd : List Int)
    (h1 : ((decide (ep < (0 : Int))) = Bool.false))
    (h2 : ((decide (ep > (1048576 : Int))) = Bool.false))
    (h3 : ((decide (fr < (1 : Int))) = Bool.false))
    (h4 : ((decide (fr > (9 : Int))) = Bool.false))
    (h5 : ((decide (rd < (0 : Int))) = Bool.false))
    (h6 : ((decide (rd > (1099511627776 : Int))) = Bool.false))
    (h7 : ((decide (kd ≥ (1 : Int))) = Bool.true))
    (h8 : ((decide (kd ≤ (3 : Int))) = Bool.false))
    (h9 : ((wh != (0 : Int)) = Bool.false))
    (h10 : ((tp != (0 : Int)) = Bool.false))
    (h11 : ((kd == (4 : Int)) = Bool.false))
    (h12 : ((kd == (5 : Int)) = Bool.false))
    (h13 : ((rd == (0 : Int)) = Bool.false))
    (h14 : ((kd == (6 : Int)) = Bool.false))
    (h15 : ((kd == (7 : Int)) = Bool.true))
    (h16 : (((((List.length bd) : Nat) : Int) == (0 : Int)) = Bool.false))
    (h17 : ((kd == (8 : Int)) = Bool.true))
    (h18 : ((decide ((((List.length bd) : Nat) : Int) > (0 : Int))) = Bool.true))
    (h19 : ((decide ((((List.length bd) : Nat) : Int) ≤ (768 : Int))) = Bool.true))
    (h20 : (((Int.tmod (((List.length bd) : Nat) : Int) (96 : Int)) == (0 : Int)) = Bool.false)) :
    ∃ ps, runF Try.prog D0 [] 200 Try.f15 [.agg (msgP kd ep fr wh tp rd bd)] [.is false, .is false, .is false, .is false, .is false, .is false, .is true, .is false, .is false, .is false, .is false, .is false, .is false, .is false, .is true, .is false, .is true, .is true, .is true, .is false] = some ((Go.Abs.AV.v (Go.Abs.A0.one (Go.Abs.Part.bool Bool.true Bool.false))), ps) ∧ AllQ ps := ⟨_, rr_40_r kd ep fr wh tp rd bd, AllP.all ⟨h1, h2, h3, h4, h5, h6, h7, h8, h9, h10, h11, h12, h13, h14, h15, h16, h17, h18, h19, h20⟩⟩

theorem rr_41_r (kd ep fr wh tp rd : Int) (bd : List Int) : runF Try.prog D0 [] 200 Try.f15 [.agg (msgP kd ep fr wh tp rd bd)] [.is false, .is false, .is false, .is false, .is false, .is false, .is true, .is false, .is false, .is false, .is false, .is false, .is false, .is false, .is true, .is false, .is true, .is true, .is true, .is true] =
    some ((Go.Abs.AV.v (Go.Abs.A0.one (Go.Abs.Part.bool Bool.true Bool.true))), [((decide (ep < (0 : Int))) = Bool.false), ((decide (ep > (1048576 : Int))) = Bool.false), ((decide (fr < (1 : Int))) = Bool.false), ((decide (fr > (9 : Int))) = Bool.false), ((decide (rd < (0 : Int))) = Bool.false), ((decide (rd > (1099511627776 : Int))) = Bool.false), ((decide (kd ≥ (1 : Int))) = Bool.true), ((decide (kd ≤ (3 : Int))) = Bool.false), ((wh != (0 : Int)) = Bool.false), ((tp != (0 : Int)) = Bool.false), ((kd == (4 : Int)) = Bool.false), ((kd == (5 : Int)) = Bool.false), ((rd == (0 : Int)) = Bool.false), ((kd == (6 : Int)) = Bool.false), ((kd == (7 : Int)) = Bool.true), (((((List.length bd) : Nat) : Int) == (0 : Int)) = Bool.false), ((kd == (8 : Int)) = Bool.true), ((decide ((((List.length bd) : Nat) : Int) > (0 : Int))) = Bool.true), ((decide ((((List.length bd) : Nat) : Int) ≤ (768 : Int))) = Bool.true), (((Int.tmod (((List.length bd) : Nat) : Int) (96 : Int)) == (0 : Int)) = Bool.true)]) := by kernel_rfl
theorem rr_41 (kd ep fr wh tp rd : Int) (bd : List Int)
    (h1 : ((decide (ep < (0 : Int))) = Bool.false))
    (h2 : ((decide (ep > (1048576 : Int))) = Bool.false))
    (h3 : ((decide (fr < (1 : Int))) = Bool.false))
    (h4 : ((decide (fr > (9 : Int))) = Bool.false))
    (h5 : ((decide (rd < (0 : Int))) = Bool.false))
    (h6 : ((decide (rd > (1099511627776 : Int))) = Bool.false))
    (h7 : ((decide (kd ≥ (1 : Int))) = Bool.true))
    (h8 : ((decide (kd ≤ (3 : Int))) = Bool.false))
    (h9 : ((wh != (0 : Int)) = Bool.false))
    (h10 : ((tp != (0 : Int)) = Bool.false))
    (h11 : ((kd == (4 : Int)) = Bool.false))
    (h12 : ((kd == (5 : Int)) = Bool.false))
    (h13 : ((rd == (0 : Int)) = Bool.false))
    (h14 : ((kd == (6 : Int)) = Bool.false))
    (h15 : ((kd == (7 : Int)) = Bool.true))
    (h16 : (((((List.length bd) : Nat) : Int) == (0 : Int)) = Bool.false))
    (h17 : ((kd == (8 : Int)) = Bool.true))
    (h18 : ((decide ((((List.length bd) : Nat) : Int) > (0 : Int))) = Bool.true))
    (h19 : ((decide ((((List.length bd) : Nat) : Int) ≤ (768 : Int))) = Bool.true))
    (h20 : (((Int.tmod (((List.length bd) : Nat) : Int) (96 : Int)) == (0 : Int)) = Bool.true)) :
    ∃ ps, runF Try.prog D0 [] 200 Try.f15 [.agg (msgP kd ep fr wh tp rd bd)] [.is false, .is false, .is false, .is false, .is false, .is false, .is true, .is false, .is false, .is false, .is false, .is false, .is false, .is false, .is true, .is false, .is true, .is true, .is true, .is true] = some ((Go.Abs.AV.v (Go.Abs.A0.one (Go.Abs.Part.bool Bool.true Bool.true))), ps) ∧ AllQ ps := ⟨_, rr_41_r kd ep fr wh tp rd bd, AllP.all ⟨h1, h2, h3, h4, h5, h6, h7, h8, h9, h10, h11, h12, h13, h14, h15, h16, h17, h18, h19, h20⟩⟩

theorem rr_42_r (kd ep fr wh tp rd : Int) (bd : List Int) : runF Try.prog D0 [] 200 Try.f15 [.agg (msgP kd ep fr wh tp rd bd)] [.is false, .is false, .is false, .is false, .is false, .is false, .is true, .is false, .is false, .is false, .is false, .is false, .is false, .is false, .is true, .is true] =
    some ((Go.Abs.AV.v (Go.Abs.A0.one (Go.Abs.Part.bool Bool.true Bool.true))), [((decide (ep < (0 : Int))) = Bool.false), ((decide (ep > (1048576 : Int))) = Bool.false), ((decide (fr < (1 : Int))) = Bool.false), ((decide (fr > (9 : Int))) = Bool.false), ((decide (rd < (0 : Int))) = Bool.false), ((decide (rd > (1099511627776 : Int))) = Bool.false), ((decide (kd ≥ (1 : Int))) = Bool.true), ((decide (kd ≤ (3 : Int))) = Bool.false), ((wh != (0 : Int)) = Bool.false), ((tp != (0 : Int)) = Bool.false), ((kd == (4 : Int)) = Bool.false), ((kd == (5 : Int)) = Bool.false), ((rd == (0 : Int)) = Bool.false), ((kd == (6 : Int)) = Bool.false), ((kd == (7 : Int)) = Bool.true), (((((List.length bd) : Nat) : Int) == (0 : Int)) = Bool.true)]) := by kernel_rfl
theorem rr_42 (kd ep fr wh tp rd : Int) (bd : List Int)
    (h1 : ((decide (ep < (0 : Int))) = Bool.false))
    (h2 : ((decide (ep > (1048576 : Int))) = Bool.false))
    (h3 : ((decide (fr < (1 : Int))) = Bool.false))
    (h4 : ((decide (fr > (9 : Int))) = Bool.false))
    (h5 : ((decide (rd < (0 : Int))) = Bool.false))
    (h6 : ((decide (rd > (1099511627776 : Int))) = Bool.false))
    (h7 : ((decide (kd ≥ (1 : Int))) = Bool.true))
    (h8 : ((decide (kd ≤ (3 : Int))) = Bool.false))
    (h9 : ((wh != (0 : Int)) = Bool.false))
    (h10 : ((tp != (0 : Int)) = Bool.false))
    (h11 : ((kd == (4 : Int)) = Bool.false))
    (h12 : ((kd == (5 : Int)) = Bool.false))
    (h13 : ((rd == (0 : Int)) = Bool.false))
    (h14 : ((kd == (6 : Int)) = Bool.false))
    (h15 : ((kd == (7 : Int)) = Bool.true))
    (h16 : (((((List.length bd) : Nat) : Int) == (0 : Int)) = Bool.true)) :
    ∃ ps, runF Try.prog D0 [] 200 Try.f15 [.agg (msgP kd ep fr wh tp rd bd)] [.is false, .is false, .is false, .is false, .is false, .is false, .is true, .is false, .is false, .is false, .is false, .is false, .is false, .is false, .is true, .is true] = some ((Go.Abs.AV.v (Go.Abs.A0.one (Go.Abs.Part.bool Bool.true Bool.true))), ps) ∧ AllQ ps := ⟨_, rr_42_r kd ep fr wh tp rd bd, AllP.all ⟨h1, h2, h3, h4, h5, h6, h7, h8, h9, h10, h11, h12, h13, h14, h15, h16⟩⟩

theorem rr_43_r (kd ep fr wh tp rd : Int) (bd : List Int) : runF Try.prog D0 [] 200 Try.f15 [.agg (msgP kd ep fr wh tp rd bd)] [.is false, .is false, .is false, .is false, .is false, .is false, .is true, .is false, .is false, .is false, .is false, .is false, .is false, .is true, .is false, .is false, .is false] =
    some ((Go.Abs.AV.v (Go.Abs.A0.one (Go.Abs.Part.bool Bool.true Bool.false))), [((decide (ep < (0 : Int))) = Bool.false), ((decide (ep > (1048576 : Int))) = Bool.false), ((decide (fr < (1 : Int))) = Bool.false), ((decide (fr > (9 : Int))) = Bool.false), ((decide (rd < (0 : Int))) = Bool.false), ((decide (rd > (1099511627776 : Int))) = Bool.false), ((decide (kd ≥ (1 : Int))) = Bool.true), ((decide (kd ≤ (3 : Int))) = Bool.false), ((wh != (0 : Int)) = Bool.false), ((tp != (0 : Int)) = Bool.false), ((kd == (4 : Int)) = Bool.false), ((kd == (5 : Int)) = Bool.false), ((rd == (0 : Int)) = Bool.false), ((kd == (6 : Int)) = Bool.true), (((((List.length bd) : Nat) : Int) == (96 : Int)) = Bool.false), ((kd == (7 : Int)) = Bool.false), ((kd == (8 : Int)) = Bool.false)]) := by kernel_rfl
theorem rr_43 (kd ep fr wh tp rd : Int) (bd : List Int)
    (h1 : ((decide (ep < (0 : Int))) = Bool.false))
    (h2 : ((decide (ep > (1048576 : Int))) = Bool.false))
    (h3 : ((decide (fr < (1 : Int))) = Bool.false))
    (h4 : ((decide (fr > (9 : Int))) = Bool.false))
    (h5 : ((decide (rd < (0 : Int))) = Bool.false))
    (h6 : ((decide (rd > (1099511627776 : Int))) = Bool.false))
    (h7 : ((decide (kd ≥ (1 : Int))) = Bool.true))
    (h8 : ((decide (kd ≤ (3 : Int))) = Bool.false))
    (h9 : ((wh != (0 : Int)) = Bool.false))
    (h10 : ((tp != (0 : Int)) = Bool.false))
    (h11 : ((kd == (4 : Int)) = Bool.false))
    (h12 : ((kd == (5 : Int)) = Bool.false))
    (h13 : ((rd == (0 : Int)) = Bool.false))
    (h14 : ((kd == (6 : Int)) = Bool.true))
    (h15 : (((((List.length bd) : Nat) : Int) == (96 : Int)) = Bool.false))
    (h16 : ((kd == (7 : Int)) = Bool.false))
    (h17 : ((kd == (8 : Int)) = Bool.false)) :
    ∃ ps, runF Try.prog D0 [] 200 Try.f15 [.agg (msgP kd ep fr wh tp rd bd)] [.is false, .is false, .is false, .is false, .is false, .is false, .is true, .is false, .is false, .is false, .is false, .is false, .is false, .is true, .is false, .is false, .is false] = some ((Go.Abs.AV.v (Go.Abs.A0.one (Go.Abs.Part.bool Bool.true Bool.false))), ps) ∧ AllQ ps := ⟨_, rr_43_r kd ep fr wh tp rd bd, AllP.all ⟨h1, h2, h3, h4, h5, h6, h7, h8, h9, h10, h11, h12, h13, h14, h15, h16, h17⟩⟩

theorem rr_44_r (kd ep fr wh tp rd : Int) (bd : List Int) : runF Try.prog D0 [] 200 Try.f15 [.agg (msgP kd ep fr wh tp rd bd)] [.is false, .is false, .is false, .is false, .is false, .is false, .is true, .is false, .is false, .is false, .is false, .is false, .is false, .is true, .is false, .is false, .is true, .is false] =
    some ((Go.Abs.AV.v (Go.Abs.A0.one (Go.Abs.Part.bool Bool.true Bool.false))), [((decide (ep < (0 : Int))) = Bool.false), ((decide (ep > (1048576 : Int))) = Bool.false), ((decide (fr < (1 : Int))) = Bool.false), ((decide (fr > (9 : Int))) = Bool.false), ((decide (rd < (0 : Int))) = Bool.false), ((decide (rd > (1099511627776 : Int))) = Bool.false), ((decide (kd ≥ (1 : Int))) = Bool.true), ((decide (kd ≤ (3 : Int))) = Bool.false), ((wh != (0 : Int)) = Bool.false), ((tp != (0 : Int)) = Bool.false), ((kd == (4 : Int)) = Bool.false), ((kd == (5 : Int)) = Bool.false), ((rd == (0 : Int)) = Bool.false), ((kd == (6 : Int)) = Bool.true), (((((List.length bd) : Nat) : Int) == (96 : Int)) = Bool.false), ((kd == (7 : Int)) = Bool.false), ((kd == (8 : Int)) = Bool.true), ((decide ((((List.length bd) : Nat) : Int) > (0 : Int))) = Bool.false)]) := by kernel_rfl
theorem rr_44 (kd ep fr wh tp rd : Int) (bd : List Int)
    (h1 : ((decide (ep < (0 : Int))) = Bool.false))
    (h2 : ((decide (ep > (1048576 : Int))) = Bool.false))
    (h3 : ((decide (fr < (1 : Int))) = Bool.false))
    (h4 : ((decide (fr > (9 : Int))) = Bool.false))
    (h5 : ((decide (rd < (0 : Int))) = Bool.false))
    (h6 : ((decide (rd > (1099511627776 : Int))) = Bool.false))
    (h7 : ((decide (kd ≥ (1 : Int))) = Bool.true))
    (h8 : ((decide (kd ≤ (3 : Int))) = Bool.false))
    (h9 : ((wh != (0 : Int)) = Bool.false))
    (h10 : ((tp != (0 : Int)) = Bool.false))
    (h11 : ((kd == (4 : Int)) = Bool.false))
    (h12 : ((kd == (5 : Int)) = Bool.false))
    (h13 : ((rd == (0 : Int)) = Bool.false))
    (h14 : ((kd == (6 : Int)) = Bool.true))
    (h15 : (((((List.length bd) : Nat) : Int) == (96 : Int)) = Bool.false))
    (h16 : ((kd == (7 : Int)) = Bool.false))
    (h17 : ((kd == (8 : Int)) = Bool.true))
    (h18 : ((decide ((((List.length bd) : Nat) : Int) > (0 : Int))) = Bool.false)) :
    ∃ ps, runF Try.prog D0 [] 200 Try.f15 [.agg (msgP kd ep fr wh tp rd bd)] [.is false, .is false, .is false, .is false, .is false, .is false, .is true, .is false, .is false, .is false, .is false, .is false, .is false, .is true, .is false, .is false, .is true, .is false] = some ((Go.Abs.AV.v (Go.Abs.A0.one (Go.Abs.Part.bool Bool.true Bool.false))), ps) ∧ AllQ ps := ⟨_, rr_44_r kd ep fr wh tp rd bd, AllP.all ⟨h1, h2, h3, h4, h5, h6, h7, h8, h9, h10, h11, h12, h13, h14, h15, h16, h17, h18⟩⟩

theorem rr_45_r (kd ep fr wh tp rd : Int) (bd : List Int) : runF Try.prog D0 [] 200 Try.f15 [.agg (msgP kd ep fr wh tp rd bd)] [.is false, .is false, .is false, .is false, .is false, .is false, .is true, .is false, .is false, .is false, .is false, .is false, .is false, .is true, .is false, .is false, .is true, .is true, .is false] =
    some ((Go.Abs.AV.v (Go.Abs.A0.one (Go.Abs.Part.bool Bool.true Bool.false))), [((decide (ep < (0 : Int))) = Bool.false), ((decide (ep > (1048576 : Int))) = Bool.false), ((decide (fr < (1 : Int))) = Bool.false), ((decide (fr > (9 : Int))) = Bool.false), ((decide (rd < (0 : Int))) = Bool.false), ((decide (rd > (1099511627776 : Int))) = Bool.false), ((decide (kd ≥ (1 : Int))) = Bool.true), ((decide (kd ≤ (3 : Int))) = Bool.false), ((wh != (0 : Int)) = Bool.false), ((tp != (0 : Int)) = Bool.false), ((kd == (4 : Int)) = Bool.false), ((kd == (5 : Int)) = Bool.false), ((rd == (0 : Int)) = Bool.false), ((kd == (6 : Int)) = Bool.true), (((((List.length bd) : Nat) : Int) == (96 : Int)) = Bool.false), ((kd == (7 : Int)) = Bool.false), ((kd == (8 : Int)) = Bool.true), ((decide ((((List.length bd) : Nat) : Int) > (0 : Int))) = Bool.true), ((decide ((((List.length bd) : Nat) : Int) ≤ (768 : Int))) = Bool.false)]) := by kernel_rfl
theorem rr_45 (kd ep fr wh tp rd : Int) (bd : List Int)
    (h1 : ((decide (ep < (0 : Int))) = Bool.false))
    (h2 : ((decide (ep > (1048576 : Int))) = Bool.false))
    (h3 : ((decide (fr < (1 : Int))) = Bool.false))
    (h4 : ((decide (fr > (9 : Int))) = Bool.false))
    (h5 : ((decide (rd < (0 : Int))) = Bool.false))
    (h6 : ((decide (rd > (1099511627776 : Int))) = Bool.false))
    (h7 : ((decide (kd ≥ (1 : Int))) = Bool.true))
    (h8 : ((decide (kd ≤ (3 : Int))) = Bool.false))
    (h9 : ((wh != (0 : Int)) = Bool.false))
    (h10 : ((tp != (0 : Int)) = Bool.false))
    (h11 : ((kd == (4 : Int)) = Bool.false))
    (h12 : ((kd == (5 : Int)) = Bool.false))
    (h13 : ((rd == (0 : Int)) = Bool.false))
    (h14 : ((kd == (6 : Int)) = Bool.true))
    (h15 : (((((List.length bd) : Nat) : Int) == (96 : Int)) = Bool.false))
    (h16 : ((kd == (7 : Int)) = Bool.false))
    (h17 : ((kd == (8 : Int)) = Bool.true))
    (h18 : ((decide ((((List.length bd) : Nat) : Int) > (0 : Int))) = Bool.true))
    (h19 : ((decide ((((List.length bd) : Nat) : Int) ≤ (768 : Int))) = Bool.false)) :
    ∃ ps, runF Try.prog D0 [] 200 Try.f15 [.agg (msgP kd ep fr wh tp rd bd)] [.is false, .is false, .is false, .is false, .is false, .is false, .is true, .is false, .is false, .is false, .is false, .is false, .is false, .is true, .is false, .is false, .is true, .is true, .is false] = some ((Go.Abs.AV.v (Go.Abs.A0.one (Go.Abs.Part.bool Bool.true Bool.false))), ps) ∧ AllQ ps := ⟨_, rr_45_r kd ep fr wh tp rd bd, AllP.all ⟨h1, h2, h3, h4, h5, h6, h7, h8, h9, h10, h11, h12, h13, h14, h15, h16, h17, h18, h19⟩⟩

theorem rr_46_r (kd ep fr wh tp rd : Int) (bd : List Int) : runF Try.prog D0 [] 200 Try.f15 [.agg (msgP kd ep fr wh tp rd bd)] [.is false, .is false, .is false, .is false, .is false, .is false, .is true, .is false, .is false, .is false, .is false, .is false, .is false, .is true, .is false, .is false, .is true, .is true, .is true, .is false] =
    some ((Go.Abs.AV.v (Go.Abs.A0.one (Go.Abs.Part.bool Bool.true Bool.false))), [((decide (ep < (0 : Int))) = Bool.false), ((decide (ep > (1048576 : Int))) = Bool.false), ((decide (fr < (1 : Int))) = Bool.false), ((decide (fr > (9 : Int))) = Bool.false), ((decide (rd < (0 : Int))) = Bool.false), ((decide (rd > (1099511627776 : Int))) = Bool.false), ((decide (kd ≥ (1 : Int))) = Bool.true), ((decide (kd ≤ (3 : Int))) = Bool.false), ((wh != (0 : Int)) = Bool.false), ((tp != (0 : Int)) = Bool.false), ((kd == (4 : Int)) = Bool.false), ((kd == (5 : Int)) = Bool.false), ((rd == (0 : Int)) = Bool.false), ((kd == (6 : Int)) = Bool.true), (((((List.length bd) : Nat) : Int) == (96 : Int)) = Bool.false), ((kd == (7 : Int)) = Bool.false), ((kd == (8 : Int)) = Bool.true), ((decide ((((List.length bd) : Nat) : Int) > (0 : Int))) = Bool.true), ((decide ((((List.length bd) : Nat) : Int) ≤ (768 : Int))) = Bool.true), (((Int.tmod (((List.length bd) : Nat) : Int) (96 : Int)) == (0 : Int)) = Bool.false)]) := by kernel_rfl
theorem rr_46 (kd ep fr wh tp rd : Int) (bd : List Int)
    (h1 : ((decide (ep < (0 : Int))) = Bool.false))
    (h2 : ((decide (ep > (1048576 : Int))) = Bool.false))
    (h3 : ((decide (fr < (1 : Int))) = Bool.false))
    (h4 : ((decide (fr > (9 : Int))) = Bool.false))
    (h5 : ((decide (rd < (0 : Int))) = Bool.false))
    (h6 : ((decide (rd > (1099511627776 : Int))) = Bool.false))
    (h7 : ((decide (kd ≥ (1 : Int))) = Bool.true))
    (h8 : ((decide (kd ≤ (3 : Int))) = Bool.false))
    (h9 : ((wh != (0 : Int)) = Bool.false))
    (h10 : ((tp != (0 : Int)) = Bool.false))
    (h11 : ((kd == (4 : Int)) = Bool.false))
    (h12 : ((kd == (5 : Int)) = Bool.false))
    (h13 : ((rd == (0 : Int)) = Bool.false))
    (h14 : ((kd == (6 : Int)) = Bool.true))
    (h15 : (((((List.length bd) : Nat) : Int) == (96 : Int)) = Bool.false))
    (h16 : ((kd == (7 : Int)) = Bool.false))
    (h17 : ((kd == (8 : Int)) = Bool.true))
    (h18 : ((decide ((((List.length bd) : Nat) : Int) > (0 : Int))) = Bool.true))
    (h19 : ((decide ((((List.length bd) : Nat) : Int) ≤ (768 : Int))) = Bool.true))
    (h20 : (((Int.tmod (((List.length bd) : Nat) : Int) (96 : Int)) == (0 : Int)) = Bool.false)) :
    ∃ ps, runF Try.prog D0 [] 200 Try.f15 [.agg (msgP kd ep fr wh tp rd bd)] [.is false, .is false, .is false, .is false, .is false, .is false, .is true, .is false, .is false, .is false, .is false, .is false, .is false, .is true, .is false, .is false, .is true, .is true, .is true, .is false] = some ((Go.Abs.AV.v (Go.Abs.A0.one (Go.Abs.Part.bool Bool.true Bool.false))), ps) ∧ AllQ ps := ⟨_, rr_46_r kd ep fr wh tp rd bd, AllP.all ⟨h1, h2, h3, h4, h5, h6, h7, h8, h9, h10, h11, h12, h13, h14, h15, h16, h17, h18, h19, h20⟩⟩

theorem rr_47_r (kd ep fr wh tp rd : Int) (bd : List Int) : runF Try.prog D0 [] 200 Try.f15 [.agg (msgP kd ep fr wh tp rd bd)] [.is false, .is false, .is false, .is false, .is false, .is false, .is true, .is false, .is false, .is false, .is false, .is false, .is false, .is true, .is false, .is false, .is true, .is true, .is true, .is true] =
    some ((Go.Abs.AV.v (Go.Abs.A0.one (Go.Abs.Part.bool Bool.true Bool.true))), [((decide (ep < (0 : Int))) = Bool.false), ((decide (ep > (1048576 : Int))) = Bool.false), ((decide (fr < (1 : Int))) = Bool.false), ((decide (fr > (9 : Int))) = Bool.false), ((decide (rd < (0 : Int))) = Bool.false), ((decide (rd > (1099511627776 : Int))) = Bool.false), ((decide (kd ≥ (1 : Int))) = Bool.true), ((decide (kd ≤ (3 : Int))) = Bool.false), ((wh != (0 : Int)) = Bool.false), ((tp != (0 : Int)) = Bool.false), ((kd == (4 : Int)) = Bool.false), ((kd == (5 : Int)) = Bool.false), ((rd == (0 : Int)) = Bool.false), ((kd == (6 : Int)) = Bool.true), (((((List.length bd) : Nat) : Int) == (96 : Int)) = Bool.false), ((kd == (7 : Int)) = Bool.false), ((kd == (8 : Int)) = Bool.true), ((decide ((((List.length bd) : Nat) : Int) > (0 : Int))) = Bool.true), ((decide ((((List.length bd) : Nat) : Int) ≤ (768 : Int))) = Bool.true), (((Int.tmod (((List.length bd) : Nat) : Int) (96 : Int)) == (0 : Int)) = Bool.true)]) := by kernel_rfl
theorem rr_47 (kd ep fr wh tp rd : Int) (bd : List Int)
    (h1 : ((decide (ep < (0 : Int))) = Bool.false))
    (h2 : ((decide (ep > (1048576 : Int))) = Bool.false))
    (h3 : ((decide (fr < (1 : Int))) = Bool.false))
    (h4 : ((decide (fr > (9 : Int))) = Bool.false))
    (h5 : ((decide (rd < (0 : Int))) = Bool.false))
    (h6 : ((decide (rd > (1099511627776 : Int))) = Bool.false))
    (h7 : ((decide (kd ≥ (1 : Int))) = Bool.true))
    (h8 : ((decide (kd ≤ (3 : Int))) = Bool.false))
    (h9 : ((wh != (0 : Int)) = Bool.false))
    (h10 : ((tp != (0 : Int)) = Bool.false))
    (h11 : ((kd == (4 : Int)) = Bool.false))
    (h12 : ((kd == (5 : Int)) = Bool.false))
    (h13 : ((rd == (0 : Int)) = Bool.false))
    (h14 : ((kd == (6 : Int)) = Bool.true))
    (h15 : (((((List.length bd) : Nat) : Int) == (96 : Int)) = Bool.false))
    (h16 : ((kd == (7 : Int)) = Bool.false))
    (h17 : ((kd == (8 : Int)) = Bool.true))
    (h18 : ((decide ((((List.length bd) : Nat) : Int) > (0 : Int))) = Bool.true))
    (h19 : ((decide ((((List.length bd) : Nat) : Int) ≤ (768 : Int))) = Bool.true))
    (h20 : (((Int.tmod (((List.length bd) : Nat) : Int) (96 : Int)) == (0 : Int)) = Bool.true)) :
    ∃ ps, runF Try.prog D0 [] 200 Try.f15 [.agg (msgP kd ep fr wh tp rd bd)] [.is false, .is false, .is false, .is false, .is false, .is false, .is true, .is false, .is false, .is false, .is false, .is false, .is false, .is true, .is false, .is false, .is true, .is true, .is true, .is true] = some ((Go.Abs.AV.v (Go.Abs.A0.one (Go.Abs.Part.bool Bool.true Bool.true))), ps) ∧ AllQ ps := ⟨_, rr_47_r kd ep fr wh tp rd bd, AllP.all ⟨h1, h2, h3, h4, h5, h6, h7, h8, h9, h10, h11, h12, h13, h14, h15, h16, h17, h18, h19, h20⟩⟩

theorem rr_48_r (kd ep fr wh tp rd : Int) (bd : List Int) : runF Try.prog D0 [] 200 Try.f15 [.agg (msgP kd ep fr wh tp rd bd)] [.is false, .is false, .is false, .is false, .is false, .is false, .is true, .is false, .is false, .is false, .is false, .is false, .is false, .is true, .is false, .is true, .is false, .is false] =
    some ((Go.Abs.AV.v (Go.Abs.A0.one (Go.Abs.Part.bool Bool.true Bool.false))), [((decide (ep < (0 : Int))) = Bool.false), ((decide (ep > (1048576 : Int))) = Bool.false), ((decide (fr < (1 : Int))) = Bool.false), ((decide (fr > (9 : Int))) = Bool.false), ((decide (rd < (0 : Int))) = Bool.false), ((decide (rd > (1099511627776 : Int))) = Bool.false), ((decide (kd ≥ (1 : Int))) = Bool.true), ((decide (kd ≤ (3 : Int))) = Bool.false), ((wh != (0 : Int)) = Bool.false), ((tp != (0 : Int)) = Bool.false), ((kd == (4 : Int)) = Bool.false), ((kd == (5 : Int)) = Bool.false), ((rd == (0 : Int)) = Bool.false), ((kd == (6 : Int)) = Bool.true), (((((List.length bd) : Nat) : Int) == (96 : Int)) = Bool.false), ((kd == (7 : Int)) = Bool.true), (((((List.length bd) : Nat) : Int) == (0 : Int)) = Bool.false), ((kd == (8 : Int)) = Bool.false)]) := by kernel_rfl
theorem rr_48 (kd ep fr wh tp rd : Int) (bd : List Int)
    (h1 : ((decide (ep < (0 : Int))) = Bool.false))
    (h2 : ((decide (ep > (1048576 : Int))) = Bool.false))
    (h3 : ((decide (fr < (1 : Int))) = Bool.false))
    (h4 : ((decide (fr > (9 : Int))) = Bool.false))
    (h5 : ((decide (rd < (0 : Int))) = Bool.false))
    (h6 : ((decide (rd > (1099511627776 : Int))) = Bool.false))
    (h7 : ((decide (kd ≥ (1 : Int))) = Bool.true))
    (h8 : ((decide (kd ≤ (3 : Int))) = Bool.false))
    (h9 : ((wh != (0 : Int)) = Bool.false))
    (h10 : ((tp != (0 : Int)) = Bool.false))
    (h11 : ((kd == (4 : Int)) = Bool.false))
    (h12 : ((kd == (5 : Int)) = Bool.false))
    (h13 : ((rd == (0 : Int)) = Bool.false))
    (h14 : ((kd == (6 : Int)) = Bool.true))
    (h15 : (((((List.length bd) : Nat) : Int) == (96 : Int)) = Bool.false))
    (h16 : ((kd == (7 : Int)) = Bool.true))
    (h17 : (((((List.length bd) : Nat) : Int) == (0 : Int)) = Bool.false))
    (h18 : ((kd == (8 : Int)) = Bool.false)) :
    ∃ ps, runF Try.prog D0 [] 200 Try.f15 [.agg (msgP kd ep fr wh tp rd bd)] [.is false, .is false, .is false, .is false, .is false, .is false, .is true, .is false, .is false, .is false, .is false, .is false, .is false, .is true, .is false, .is true, .is false, .is false] = some ((Go.Abs.AV.v (Go.Abs.A0.one (Go.Abs.Part.bool Bool.true Bool.false))), ps) ∧ AllQ ps := ⟨_, rr_48_r kd ep fr wh tp rd bd, AllP.all ⟨h1, h2, h3, h4, h5, h6, h7, h8, h9, h10, h11, h12, h13, h14, h15, h16, h17, h18⟩⟩

theorem rr_49_r (kd ep fr wh tp rd : Int) (bd : List Int) : runF Try.prog D0 [] 200 Try.f15 [.agg (msgP kd ep fr wh tp rd bd)] [.is false, .is false, .is false, .is false, .is false, .is false, .is true, .is false, .is false, .is false, .is false, .is false, .is false, .is true, .is false, .is true, .is false, .is true, .is false] =
    some ((Go.Abs.AV.v (Go.Abs.A0.one (Go.Abs.Part.bool Bool.true Bool.false))), [((decide (ep < (0 : Int))) = Bool.false), ((decide (ep > (1048576 : Int))) = Bool.false), ((decide (fr < (1 : Int))) = Bool.false), ((decide (fr > (9 : Int))) = Bool.false), ((decide (rd < (0 : Int))) = Bool.false), ((decide (rd > (1099511627776 : Int))) = Bool.false), ((decide (kd ≥ (1 : Int))) = Bool.true), ((decide (kd ≤ (3 : Int))) = Bool.false), ((wh != (0 : Int)) = Bool.false), ((tp != (0 : Int)) = Bool.false), ((kd == (4 : Int)) = Bool.false), ((kd == (5 : Int)) = Bool.false), ((rd == (0 : Int)) = Bool.false), ((kd == (6 : Int)) = Bool.true), (((((List.length bd) : Nat) : Int) == (96 : Int)) = Bool.false), ((kd == (7 : Int)) = Bool.true), (((((List.length bd) : Nat) : Int) == (0 : Int)) = Bool.false), ((kd == (8 : Int)) = Bool.true), ((decide ((((List.length bd) : Nat) : Int) > (0 : Int))) = Bool.false)]) := by kernel_rfl
theorem rr_49 (kd ep fr wh tp rd : Int) (bd : List Int)
    (h1 : ((decide (ep < (0 : Int))) = Bool.false))
    (h2 : ((decide (ep > (1048576 : Int))) = Bool.false))
    (h3 : ((decide (fr < (1 : Int))) = Bool.false))
    (h4 : ((decide (fr > (9 : Int))) = Bool.false))
    (h5 : ((decide (rd < (0 : Int))) = Bool.false))
    (h6 : ((decide (rd > (1099511627776 : Int))) = Bool.false))
    (h7 : ((decide (kd ≥ (1 : Int))) = Bool.true))
    (h8 : ((decide (kd ≤ (3 : Int))) = Bool.false))
    (h9 : ((wh != (0 : Int)) = Bool.false))
    (h10 : ((tp != (0 : Int)) = Bool.false))
    (h11 : ((kd == (4 : Int)) = Bool.false))
    (h12 : ((kd == (5 : Int)) = Bool.false))
    (h13 : ((rd == (0 : Int)) = Bool.false))
    (h14 : ((kd == (6 : Int)) = Bool.true))
    (h15 : (((((List.length bd) : Nat) : Int) == (96 : Int)) = Bool.false))
    (h16 : ((kd == (7 : Int)) = Bool.true))
    (h17 : (((((List.length bd) : Nat) : Int) == (0 : Int)) = Bool.false))
    (h18 : ((kd == (8 : Int)) = Bool.true))
    (h19 : ((decide ((((List.length bd) : Nat) : Int) > (0 : Int))) = Bool.false)) :
    ∃ ps, runF Try.prog D0 [] 200 Try.f15 [.agg (msgP kd ep fr wh tp rd bd)] [.is false, .is false, .is false, .is false, .is false, .is false, .is true, .is false, .is false, .is false, .is false, .is false, .is false, .is true, .is false, .is true, .is false, .is true, .is false] = some ((Go.Abs.AV.v (Go.Abs.A0.one (Go.Abs.Part.bool Bool.true Bool.false))), ps) ∧ AllQ ps := ⟨_, rr_49_r kd ep fr wh tp rd bd, AllP.all ⟨h1, h2, h3, h4, h5, h6, h7, h8, h9, h10, h11, h12, h13, h14, h15, h16, h17, h18, h19⟩⟩

theorem rr_50_r (kd ep fr wh tp rd : Int) (bd : List Int) : runF Try.prog D0 [] 200 Try.f15 [.agg (msgP kd ep fr wh tp rd bd)] [.is false, .is false, .is false, .is false, .is false, .is false, .is true, .is false, .is false, .is false, .is false, .is false, .is false, .is true, .is false, .is true, .is false, .is true, .is true, .is false] =
    some ((Go.Abs.AV.v (Go.Abs.A0.one (Go.Abs.Part.bool Bool.true Bool.false))), [((decide (ep < (0 : Int))) = Bool.false), ((decide (ep > (1048576 : Int))) = Bool.false), ((decide (fr < (1 : Int))) = Bool.false), ((decide (fr > (9 : Int))) = Bool.false), ((decide (rd < (0 : Int))) = Bool.false), ((decide (rd > (1099511627776 : Int))) = Bool.false), ((decide (kd ≥ (1 : Int))) = Bool.true), ((decide (kd ≤ (3 : Int))) = Bool.false), ((wh != (0 : Int)) = Bool.false), ((tp != (0 : Int)) = Bool.false), ((kd == (4 : Int)) = Bool.false), ((kd == (5 : Int)) = Bool.false), ((rd == (0 : Int)) = Bool.false), ((kd == (6 : Int)) = Bool.true), (((((List.length bd) : Nat) : Int) == (96 : Int)) = Bool.false), ((kd == (7 : Int)) = Bool.true), (((((List.length bd) : Nat) : Int) == (0 : Int)) = Bool.false), ((kd == (8 : Int)) = Bool.true), ((decide ((((List.length bd) : Nat) : Int) > (0 : Int))) = Bool.true), ((decide ((((List.length bd) : Nat) : Int) ≤ (768 : Int))) = Bool.false)]) := by kernel_rfl
theorem rr_50 (kd ep fr wh tp rd : Int) (bd : List Int)
    (h1 : ((decide (ep < (0 : Int))) = Bool.false))
    (h2 : ((decide (ep > (1048576 : Int))) = Bool.false))
    (h3 : ((decide (fr < (1 : Int))) = Bool.false))
    (h4 : ((decide (fr > (9 : Int))) = Bool.false))
    (h5 : ((decide (rd < (0 : Int))) = Bool.false))
    (h6 : ((decide (rd > (1099511627776 : Int))) = Bool.false))
    (h7 : ((decide (kd ≥ (1 : Int))) = Bool.true))
    (h8 : ((decide (kd ≤ (3 : Int))) = Bool.false))
    (h9 : ((wh != (0 : Int)) = Bool.false))
    (h10 : ((tp != (0 : Int)) = Bool.false))
    (h11 : ((kd == (4 : Int)) = Bool.false))
    (h12 : ((kd == (5 : Int)) = Bool.false))
    (h13 : ((rd == (0 : Int)) = Bool.false))
    (h14 : ((kd == (6 : Int)) = Bool.true))
    (h15 : (((((List.length bd) : Nat) : Int) == (96 : Int)) = Bool.false))
    (h16 : ((kd == (7 : Int)) = Bool.true))
    (h17 : (((((List.length bd) : Nat) : Int) == (0 : Int)) = Bool.false))
    (h18 : ((kd == (8 : Int)) = Bool.true))
    (h19 : ((decide ((((List.length bd) : Nat) : Int) > (0 : Int))) = Bool.true))
    (h20 : ((decide ((((List.length bd) : Nat) : Int) ≤ (768 : Int))) = Bool.false)) :
    ∃ ps, runF Try.prog D0 [] 200 Try.f15 [.agg (msgP kd ep fr wh tp rd bd)] [.is false, .is false, .is false, .is false, .is false, .is false, .is true, .is false, .is false, .is false, .is false, .is false, .is false, .is true, .is false, .is true, .is false, .is true, .is true, .is false] = some ((Go.Abs.AV.v (Go.Abs.A0.one (Go.Abs.Part.bool Bool.true Bool.false))), ps) ∧ AllQ ps := ⟨_, rr_50_r kd ep fr wh tp rd bd, AllP.all ⟨h1, h2, h3, h4, h5, h6, h7, h8, h9, h10, h11, h12, h13, h14, h15, h16, h17, h18, h19, h20⟩⟩

theorem rr_51_r (kd ep fr wh tp rd : Int) (bd : List Int) : runF Try.prog D0 [] 200 Try.f15 [.agg (msgP kd ep fr wh tp rd bd)] [.is false, .is false, .is false, .is false, .is false, .is false, .is true, .is false, .is false, .is false, .is false, .is false, .is false, .is true, .is false, .is true, .is false, .is true, .is true, .is true, .is false] =
    some ((Go.Abs.AV.v (Go.Abs.A0.one (Go.Abs.Part.bool Bool.true Bool.false))), [((decide (ep < (0 : Int))) = Bool.false), ((decide (ep > (1048576 : Int))) = Bool.false), ((decide (fr < (1 : Int))) = Bool.false), ((decide (fr > (9 : Int))) = Bool.false), ((decide (rd < (0 : Int))) = Bool.false), ((decide (rd > (1099511627776 : Int))) = Bool.false), ((decide (kd ≥ (1 : Int))) = Bool.true), ((decide (kd ≤ (3 : Int))) = Bool.false), ((wh != (0 : Int)) = Bool.false), ((tp != (0 : Int)) = Bool.false), ((kd == (4 : Int)) = Bool.false), ((kd == (5 : Int)) = Bool.false), ((rd == (0 : Int)) = Bool.false), ((kd == (6 : Int)) = Bool.true), (((((List.length bd) : Nat) : Int) == (96 : Int)) = Bool.false), ((kd == (7 : Int)) = Bool.true), (((((List.length bd) : Nat) : Int) == (0 : Int)) = Bool.false), ((kd == (8 : Int)) = Bool.true), ((decide ((((List.length bd) : Nat) : Int) > (0 : Int))) = Bool.true), ((decide ((((List.length bd) : Nat) : Int) ≤ (768 : Int))) = Bool.true), (((Int.tmod (((List.length bd) : Nat) : Int) (96 : Int)) == (0 : Int)) = Bool.false)]) := by kernel_rfl
theorem rr_51 (kd ep fr wh tp rd : Int) (bd : List Int)
    (h1 : ((decide (ep < (0 : Int))) = Bool.false))
    (h2 : ((decide (ep > (1048576 : Int))) = Bool.false))
    (h3 : ((decide (fr < (1 : Int))) = Bool.false))
    (h4 : ((decide (fr > (9 : Int))) = Bool.false))
    (h5 : ((decide (rd < (0 : Int))) = Bool.false))
    (h6 : ((decide (rd > (1099511627776 : Int))) = Bool.false))
    (h7 : ((decide (kd ≥ (1 : Int))) = Bool.true))
    (h8 : ((decide (kd ≤ (3 : Int))) = Bool.false))
    (h9 : ((wh != (0 : Int)) = Bool.false))
    (h10 : ((tp != (0 : Int)) = Bool.false))
    (h11 : ((kd == (4 : Int)) = Bool.false))
    (h12 : ((kd == (5 : Int)) = Bool.false))
    (h13 : ((rd == (0 : Int)) = Bool.false))
    (h14 : ((kd == (6 : Int)) = Bool.true))
    (h15 : (((((List.length bd) : Nat) : Int) == (96 : Int)) = Bool.false))
    (h16 : ((kd == (7 : Int)) = Bool.true))
    (h17 : (((((List.length bd) : Nat) : Int) == (0 : Int)) = Bool.false))
    (h18 : ((kd == (8 : Int)) = Bool.true))
    (h19 : ((decide ((((List.length bd) : Nat) : Int) > (0 : Int))) = Bool.true))
    (h20 : ((decide ((((List.length bd) : Nat) : Int) ≤ (768 : Int))) = Bool.true))
    (h21 : (((Int.tmod (((List.length bd) : Nat) : Int) (96 : Int)) == (0 : Int)) = Bool.false)) :
    ∃ ps, runF Try.prog D0 [] 200 Try.f15 [.agg (msgP kd ep fr wh tp rd bd)] [.is false, .is false, .is false, .is false, .is false, .is false, .is true, .is false, .is false, .is false, .is false, .is false, .is false, .is true, .is false, .is true, .is false, .is true, .is true, .is true, .is false] = some ((Go.Abs.AV.v (Go.Abs.A0.one (Go.Abs.Part.bool Bool.true Bool.false))), ps) ∧ AllQ ps := ⟨_, rr_51_r kd ep fr wh tp rd bd, AllP.all ⟨h1, h2, h3, h4, h5, h6, h7, h8, h9, h10, h11, h12, h13, h14, h15, h16, h17, h18, h19, h20, h21⟩⟩

theorem rr_52_r (kd ep fr wh tp rd : Int) (bd : List Int) : runF Try.prog D0 [] 200 Try.f15 [.agg (msgP kd ep fr wh tp rd bd)] [.is false, .is false, .is false, .is false, .is false, .is false, .is true, .is false, .is false, .is false, .is false, .is false, .is false, .is true, .is false, .is true, .is false, .is true, .is true, .is true, .is true] =
    some ((Go.Abs.AV.v (Go.Abs.A0.one (Go.Abs.Part.bool Bool.true Bool.true))), [((decide (ep < (0 : Int))) = Bool.false), ((decide (ep > (1048576 : Int))) = Bool.false), ((decide (fr < (1 : Int))) = Bool.false), ((decide (fr > (9 : Int))) = Bool.false), ((decide (rd < (0 : Int))) = Bool.false), ((decide (rd > (1099511627776 : Int))) = Bool.false), ((decide (kd ≥ (1 : Int))) = Bool.true), ((decide (kd ≤ (3 : Int))) = Bool.false), ((wh != (0 : Int)) = Bool.false), ((tp != (0 : Int)) = Bool.false), ((kd == (4 : Int)) = Bool.false), ((kd == (5 : Int)) = Bool.false), ((rd == (0 : Int)) = Bool.false), ((kd == (6 : Int)) = Bool.true), (((((List.length bd) : Nat) : Int) == (96 : Int)) = Bool.false), ((kd == (7 : Int)) = Bool.true), (((((List.length bd) : Nat) : Int) == (0 : Int)) = Bool.false), ((kd == (8 : Int)) = Bool.true), ((decide ((((List.length bd) : Nat) : Int) > (0 : Int))) = Bool.true), ((decide ((((List.length bd) : Nat) : Int) ≤ (768 : Int))) = Bool.true), (((Int.tmod (((List.length bd) : Nat) : Int) (96 : Int)) == (0 : Int)) = Bool.true)]) := by kernel_rfl
theorem rr_52 (kd ep fr wh tp rd : Int) (bd : List Int)
    (h1 : ((decide (ep < (0 : Int))) = Bool.false))
    (h2 : ((decide (ep > (1048576 : Int))) = Bool.false))
    (h3 : ((decide (fr < (1 : Int))) = Bool.false))
    (h4 : ((decide (fr > (9 : Int))) = Bool.false))
    (h5 : ((decide (rd < (0 : Int))) = Bool.false))
    (h6 : ((decide (rd > (1099511627776 : Int))) = Bool.false))
    (h7 : ((decide (kd ≥ (1 : Int))) = Bool.true))
    (h8 : ((decide (kd ≤ (3 : Int))) = Bool.false))
    (h9 : ((wh != (0 : Int)) = Bool.false))
    (h10 : ((tp != (0 : Int)) = Bool.false))
    (h11 : ((kd == (4 : Int)) = Bool.false))
    (h12 : ((kd == (5 : Int)) = Bool.false))
    (h13 : ((rd == (0 : Int)) = Bool.false))
    (h14 : ((kd == (6 : Int)) = Bool.true))
    (h15 : (((((List.length bd) : Nat) : Int) == (96 : Int)) = Bool.false))
    (h16 : ((kd == (7 : Int)) = Bool.true))
    (h17 : (((((List.length bd) : Nat) : Int) == (0 : Int)) = Bool.false))
    (h18 : ((kd == (8 : Int)) = Bool.true))
    (h19 : ((decide ((((List.length bd) : Nat) : Int) > (0 : Int))) = Bool.true))
    (h20 : ((decide ((((List.length bd) : Nat) : Int) ≤ (768 : Int))) = Bool.true))
    (h21 : (((Int.tmod (((List.length bd) : Nat) : Int) (96 : Int)) == (0 : Int)) = Bool.true)) :
    ∃ ps, runF Try.prog D0 [] 200 Try.f15 [.agg (msgP kd ep fr wh tp rd bd)] [.is false, .is false, .is false, .is false, .is false, .is false, .is true, .is false, .is false, .is false, .is false, .is false, .is false, .is true, .is false, .is true, .is false, .is true, .is true, .is true, .is true] = some ((Go.Abs.AV.v (Go.Abs.A0.one (Go.Abs.Part.bool Bool.true Bool.true))), ps) ∧ AllQ ps := ⟨_, rr_52_r kd ep fr wh tp rd bd, AllP.all ⟨h1, h2, h3, h4, h5, h6, h7, h8, h9, h10, h11, h12, h13, h14, h15, h16, h17, h18, h19, h20, h21⟩⟩

theorem rr_53_r (kd ep fr wh tp rd : Int) (bd : List Int) : runF Try.prog D0 [] 200 Try.f15 [.agg (msgP kd ep fr wh tp rd bd)] [.is false, .is false, .is false, .is false, .is false, .is false, .is true, .is false, .is false, .is false, .is false, .is false, .is false, .is true, .is false, .is true, .is true] =
    some ((Go.Abs.AV.v (Go.Abs.A0.one (Go.Abs.Part.bool Bool.true Bool.true))), [((decide (ep < (0 : Int))) = Bool.false), ((decide (ep > (1048576 : Int))) = Bool.false), ((decide (fr < (1 : Int))) = Bool.false), ((decide (fr > (9 : Int))) = Bool.false), ((decide (rd < (0 : Int))) = Bool.false), ((decide (rd > (1099511627776 : Int))) = Bool.false), ((decide (kd ≥ (1 : Int))) = Bool.true), ((decide (kd ≤ (3 : Int))) = Bool.false), ((wh != (0 : Int)) = Bool.false), ((tp != (0 : Int)) = Bool.false), ((kd == (4 : Int)) = Bool.false), ((kd == (5 : Int)) = Bool.false), ((rd == (0 : Int)) = Bool.false), ((kd == (6 : Int)) = Bool.true), (((((List.length bd) : Nat) : Int) == (96 : Int)) = Bool.false), ((kd == (7 : Int)) = Bool.true), (((((List.length bd) : Nat) : Int) == (0 : Int)) = Bool.true)]) := by kernel_rfl
theorem rr_53 (kd ep fr wh tp rd : Int) (bd : List Int)
    (h1 : ((decide (ep < (0 : Int))) = Bool.false))
    (h2 : ((decide (ep > (1048576 : Int))) = Bool.false))
    (h3 : ((decide (fr < (1 : Int))) = Bool.false))
    (h4 : ((decide (fr > (9 : Int))) = Bool.false))
    (h5 : ((decide (rd < (0 : Int))) = Bool.false))
    (h6 : ((decide (rd > (1099511627776 : Int))) = Bool.false))
    (h7 : ((decide (kd ≥ (1 : Int))) = Bool.true))
    (h8 : ((decide (kd ≤ (3 : Int))) = Bool.false))
    (h9 : ((wh != (0 : Int)) = Bool.false))
    (h10 : ((tp != (0 : Int)) = Bool.false))
    (h11 : ((kd == (4 : Int)) = Bool.false))
    (h12 : ((kd == (5 : Int)) = Bool.false))
    (h13 : ((rd == (0 : Int)) = Bool.false))
    (h14 : ((kd == (6 : Int)) = Bool.true))
    (h15 : (((((List.length bd) : Nat) : Int) == (96 : Int)) = Bool.false))
    (h16 : ((kd == (7 : Int)) = Bool.true))
    (h17 : (((((List.length bd) : Nat) : Int) == (0 : Int)) = Bool.true)) :
    ∃ ps, runF Try.prog D0 [] 200 Try.f15 [.agg (msgP kd ep fr wh tp rd bd)] [.is false, .is false, .is false, .is false, .is false, .is false, .is true, .is false, .is false, .is false, .is false, .is false, .is false, .is true, .is false, .is true, .is true] = some ((Go.Abs.AV.v (Go.Abs.A0.one (Go.Abs.Part.bool Bool.true Bool.true))), ps) ∧ AllQ ps := ⟨_, rr_53_r kd ep fr wh tp rd bd, AllP.all ⟨h1, h2, h3, h4, h5, h6, h7, h8, h9, h10, h11, h12, h13, h14, h15, h16, h17⟩⟩

theorem rr_54_r (kd ep fr wh tp rd : Int) (bd : List Int) : runF Try.prog D0 [] 200 Try.f15 [.agg (msgP kd ep fr wh tp rd bd)] [.is false, .is false, .is false, .is false, .is false, .is false, .is true, .is false, .is false, .is false, .is false, .is false, .is false, .is true, .is true] =
    some ((Go.Abs.AV.v (Go.Abs.A0.one (Go.Abs.Part.bool Bool.true Bool.true))), [((decide (ep < (0 : Int))) = Bool.false), ((decide (ep > (1048576 : Int))) = Bool.false), ((decide (fr < (1 : Int))) = Bool.false), ((decide (fr > (9 : Int))) = Bool.false), ((decide (rd < (0 : Int))) = Bool.false), ((decide (rd > (1099511627776 : Int))) = Bool.false), ((decide (kd ≥ (1 : Int))) = Bool.true), ((decide (kd ≤ (3 : Int))) = Bool.false), ((wh != (0 : Int)) = Bool.false), ((tp != (0 : Int)) = Bool.false), ((kd == (4 : Int)) = Bool.false), ((kd == (5 : Int)) = Bool.false), ((rd == (0 : Int)) = Bool.false), ((kd == (6 : Int)) = Bool.true), (((((List.length bd) : Nat) : Int) == (96 : Int)) = Bool.true)]) := by kernel_rfl
theorem rr_54 (kd ep fr wh tp rd : Int) (bd : List Int)
    (h1 : ((decide (ep < (0 : Int))) = Bool.false))
    (h2 : ((decide (ep > (1048576 : Int))) = Bool.false))
    (h3 : ((decide (fr < (1 : Int))) = Bool.false))
    (h4 : ((decide (fr > (9 : Int))) = Bool.false))
    (h5 : ((decide (rd < (0 : Int))) = Bool.false))
    (h6 : ((decide (rd > (1099511627776 : Int))) = Bool.false))
    (h7 : ((decide (kd ≥ (1 : Int))) = Bool.true))
    (h8 : ((decide (kd ≤ (3 : Int))) = Bool.false))
    (h9 : ((wh != (0 : Int)) = Bool.false))
    (h10 : ((tp != (0 : Int)) = Bool.false))
    (h11 : ((kd == (4 : Int)) = Bool.false))
    (h12 : ((kd == (5 : Int)) = Bool.false))
    (h13 : ((rd == (0 : Int)) = Bool.false))
    (h14 : ((kd == (6 : Int)) = Bool.true))
    (h15 : (((((List.length bd) : Nat) : Int) == (96 : Int)) = Bool.true)) :
    ∃ ps, runF Try.prog D0 [] 200 Try.f15 [.agg (msgP kd ep fr wh tp rd bd)] [.is false, .is false, .is false, .is false, .is false, .is false, .is true, .is false, .is false, .is false, .is false, .is false, .is false, .is true, .is true] = some ((Go.Abs.AV.v (Go.Abs.A0.one (Go.Abs.Part.bool Bool.true Bool.true))), ps) ∧ AllQ ps := ⟨_, rr_54_r kd ep fr wh tp rd bd, AllP.all ⟨h1, h2, h3, h4, h5, h6, h7, h8, h9, h10, h11, h12, h13, h14, h15⟩⟩

theorem rr_55_r (kd ep fr wh tp rd : Int) (bd : List Int) : runF Try.prog D0 [] 200 Try.f15 [.agg (msgP kd ep fr wh tp rd bd)] [.is false, .is false, .is false, .is false, .is false, .is false, .is true, .is false, .is false, .is false, .is false, .is false, .is true] =
    some ((Go.Abs.AV.v (Go.Abs.A0.one (Go.Abs.Part.bool Bool.true Bool.false))), [((decide (ep < (0 : Int))) = Bool.false), ((decide (ep > (1048576 : Int))) = Bool.false), ((decide (fr < (1 : Int))) = Bool.false), ((decide (fr > (9 : Int))) = Bool.false), ((decide (rd < (0 : Int))) = Bool.false), ((decide (rd > (1099511627776 : Int))) = Bool.false), ((decide (kd ≥ (1 : Int))) = Bool.true), ((decide (kd ≤ (3 : Int))) = Bool.false), ((wh != (0 : Int)) = Bool.false), ((tp != (0 : Int)) = Bool.false), ((kd == (4 : Int)) = Bool.false), ((kd == (5 : Int)) = Bool.false), ((rd == (0 : Int)) = Bool.true)]) := by kernel_rfl
theorem rr_55 (kd ep fr wh tp rd : Int) (bd : List Int)
    (h1 : ((decide (ep < (0 : Int))) = Bool.false))
    (h2 : ((decide (ep > (1048576 : Int))) = Bool.false))
    (h3 : ((decide (fr < (1 : Int))) = Bool.false))
    (h4 : ((decide (fr > (9 : Int))) = Bool.false))
    (h5 : ((decide (rd < (0 : Int))) = Bool.false))
    (h6 : ((decide (rd > (1099511627776 : Int))) = Bool.false))
    (h7 : ((decide (kd ≥ (1 : Int))) = Bool.true))
    (h8 : ((decide (kd ≤ (3 : Int))) = Bool.false))
    (h9 : ((wh != (0 : Int)) = Bool.false))
    (h10 : ((tp != (0 : Int)) = Bool.false))
    (h11 : ((kd == (4 : Int)) = Bool.false))
    (h12 : ((kd == (5 : Int)) = Bool.false))
    (h13 : ((rd == (0 : Int)) = Bool.true)) :
    ∃ ps, runF Try.prog D0 [] 200 Try.f15 [.agg (msgP kd ep fr wh tp rd bd)] [.is false, .is false, .is false, .is false, .is false, .is false, .is true, .is false, .is false, .is false, .is false, .is false, .is true] = some ((Go.Abs.AV.v (Go.Abs.A0.one (Go.Abs.Part.bool Bool.true Bool.false))), ps) ∧ AllQ ps := ⟨_, rr_55_r kd ep fr wh tp rd bd, AllP.all ⟨h1, h2, h3, h4, h5, h6, h7, h8, h9, h10, h11, h12, h13⟩⟩

theorem rr_56_r (kd ep fr wh tp rd : Int) (bd : List Int) : runF Try.prog D0 [] 200 Try.f15 [.agg (msgP kd ep fr wh tp rd bd)] [.is false, .is false, .is false, .is false, .is false, .is false, .is true, .is false, .is false, .is false, .is false, .is true, .is false] =
    some ((Go.Abs.AV.v (Go.Abs.A0.one (Go.Abs.Part.bool Bool.true Bool.false))), [((decide (ep < (0 : Int))) = Bool.false), ((decide (ep > (1048576 : Int))) = Bool.false), ((decide (fr < (1 : Int))) = Bool.false), ((decide (fr > (9 : Int))) = Bool.false), ((decide (rd < (0 : Int))) = Bool.false), ((decide (rd > (1099511627776 : Int))) = Bool.false), ((decide (kd ≥ (1 : Int))) = Bool.true), ((decide (kd ≤ (3 : Int))) = Bool.false), ((wh != (0 : Int)) = Bool.false), ((tp != (0 : Int)) = Bool.false), ((kd == (4 : Int)) = Bool.false), ((kd == (5 : Int)) = Bool.true), ((rd == (0 : Int)) = Bool.false)]) := by kernel_rfl
theorem rr_56 (kd ep fr wh tp rd : Int) (bd : List Int)
    (h1 : ((decide (ep < (0 : Int))) = Bool.false))
    (h2 : ((decide (ep > (1048576 : Int))) = Bool.false))
    (h3 : ((decide (fr < (1 : Int))) = Bool.false))
    (h4 : ((decide (fr > (9 : Int))) = Bool.false))
    (h5 : ((decide (rd < (0 : Int))) = Bool.false))
    (h6 : ((decide (rd > (1099511627776 : Int))) = Bool.false))
    (h7 : ((decide (kd ≥ (1 : Int))) = Bool.true))
    (h8 : ((decide (kd ≤ (3 : Int))) = Bool.false))
    (h9 : ((wh != (0 : Int)) = Bool.false))
    (h10 : ((tp != (0 : Int)) = Bool.false))
    (h11 : ((kd == (4 : Int)) = Bool.false))
    (h12 : ((kd == (5 : Int)) = Bool.true))
    (h13 : ((rd == (0 : Int)) = Bool.false)) :
    ∃ ps, runF Try.prog D0 [] 200 Try.f15 [.agg (msgP kd ep fr wh tp rd bd)] [.is false, .is false, .is false, .is false, .is false, .is false, .is true, .is false, .is false, .is false, .is false, .is true, .is false] = some ((Go.Abs.AV.v (Go.Abs.A0.one (Go.Abs.Part.bool Bool.true Bool.false))), ps) ∧ AllQ ps := ⟨_, rr_56_r kd ep fr wh tp rd bd, AllP.all ⟨h1, h2, h3, h4, h5, h6, h7, h8, h9, h10, h11, h12, h13⟩⟩

theorem rr_57_r (kd ep fr wh tp rd : Int) (bd : List Int) : runF Try.prog D0 [] 200 Try.f15 [.agg (msgP kd ep fr wh tp rd bd)] [.is false, .is false, .is false, .is false, .is false, .is false, .is true, .is false, .is false, .is false, .is false, .is true, .is true, .is false] =
    some ((Go.Abs.AV.v (Go.Abs.A0.one (Go.Abs.Part.bool Bool.true Bool.false))), [((decide (ep < (0 : Int))) = Bool.false), ((decide (ep > (1048576 : Int))) = Bool.false), ((decide (fr < (1 : Int))) = Bool.false), ((decide (fr > (9 : Int))) = Bool.false), ((decide (rd < (0 : Int))) = Bool.false), ((decide (rd > (1099511627776 : Int))) = Bool.false), ((decide (kd ≥ (1 : Int))) = Bool.true), ((decide (kd ≤ (3 : Int))) = Bool.false), ((wh != (0 : Int)) = Bool.false), ((tp != (0 : Int)) = Bool.false), ((kd == (4 : Int)) = Bool.false), ((kd == (5 : Int)) = Bool.true), ((rd == (0 : Int)) = Bool.true), (((((List.length bd) : Nat) : Int) == (32 : Int)) = Bool.false)]) := by kernel_rfl
theorem rr_57 (kd ep fr wh tp rd : Int) (bd : List Int)
    (h1 : ((decide (ep < (0 : Int))) = Bool.false))
    (h2 : ((decide (ep > (1048576 : Int))) = Bool.false))
    (h3 : ((decide (fr < (1 : Int))) = Bool.false))
    (h4 : ((decide (fr > (9 : Int))) = Bool.false))
    (h5 : ((decide (rd < (0 : Int))) = Bool.false))
    (h6 : ((decide (rd > (1099511627776 : Int))) = Bool.false))
    (h7 : ((decide (kd ≥ (1 : Int))) = Bool.true))
    (h8 : ((decide (kd ≤ (3 : Int))) = Bool.false))
    (h9 : ((wh != (0 : Int)) = Bool.false))
    (h10 : ((tp != (0 : Int)) = Bool.false))
    (h11 : ((kd == (4 : Int)) = Bool.false))
    (h12 : ((kd == (5 : Int)) = Bool.true))
    (h13 : ((rd == (0 : Int)) = Bool.true))
    (h14 : (((((List.length bd) : Nat) : Int) == (32 : Int)) = Bool.false)) :
    ∃ ps, runF Try.prog D0 [] 200 Try.f15 [.agg (msgP kd ep fr wh tp rd bd)] [.is false, .is false, .is false, .is false, .is false, .is false, .is true, .is false, .is false, .is false, .is false, .is true, .is true, .is false] = some ((Go.Abs.AV.v (Go.Abs.A0.one (Go.Abs.Part.bool Bool.true Bool.false))), ps) ∧ AllQ ps := ⟨_, rr_57_r kd ep fr wh tp rd bd, AllP.all ⟨h1, h2, h3, h4, h5, h6, h7, h8, h9, h10, h11, h12, h13, h14⟩⟩

theorem rr_58_r (kd ep fr wh tp rd : Int) (bd : List Int) : runF Try.prog D0 [] 200 Try.f15 [.agg (msgP kd ep fr wh tp rd bd)] [.is false, .is false, .is false, .is false, .is false, .is false, .is true, .is false, .is false, .is false, .is false, .is true, .is true, .is true] =
    some ((Go.Abs.AV.v (Go.Abs.A0.one (Go.Abs.Part.bool Bool.true Bool.true))), [((decide (ep < (0 : Int))) = Bool.false), ((decide (ep > (1048576 : Int))) = Bool.false), ((decide (fr < (1 : Int))) = Bool.false), ((decide (fr > (9 : Int))) = Bool.false), ((decide (rd < (0 : Int))) = Bool.false), ((decide (rd > (1099511627776 : Int))) = Bool.false), ((decide (kd ≥ (1 : Int))) = Bool.true), ((decide (kd ≤ (3 : Int))) = Bool.false), ((wh != (0 : Int)) = Bool.false), ((tp != (0 : Int)) = Bool.false), ((kd == (4 : Int)) = Bool.false), ((kd == (5 : Int)) = Bool.true), ((rd == (0 : Int)) = Bool.true), (((((List.length bd) : Nat) : Int) == (32 : Int)) = Bool.true)]) := by kernel_rfl
theorem rr_58 (kd ep fr wh tp rd : Int) (bd : List Int)
    (h1 : ((decide (ep < (0 : Int))) = Bool.false))
    (h2 : ((decide (ep > (1048576 : Int))) = Bool.false))
    (h3 : ((decide (fr < (1 : Int))) = Bool.false))
    (h4 : ((decide (fr > (9 : Int))) = Bool.false))
    (h5 : ((decide (rd < (0 : Int))) = Bool.false))
    (h6 : ((decide (rd > (1099511627776 : Int))) = Bool.false))
    (h7 : ((decide (kd ≥ (1 : Int))) = Bool.true))
    (h8 : ((decide (kd ≤ (3 : Int))) = Bool.false))
    (h9 : ((wh != (0 : Int)) = Bool.false))
    (h10 : ((tp != (0 : Int)) = Bool.false))
    (h11 : ((kd == (4 : Int)) = Bool.false))
    (h12 : ((kd == (5 : Int)) = Bool.true))
    (h13 : ((rd == (0 : Int)) = Bool.true))
    (h14 : (((((List.length bd) : Nat) : Int) == (32 : Int)) = Bool.true)) :
    ∃ ps, runF Try.prog D0 [] 200 Try.f15 [.agg (msgP kd ep fr wh tp rd bd)] [.is false, .is false, .is false, .is false, .is false, .is false, .is true, .is false, .is false, .is false, .is false, .is true, .is true, .is true] = some ((Go.Abs.AV.v (Go.Abs.A0.one (Go.Abs.Part.bool Bool.true Bool.true))), ps) ∧ AllQ ps := ⟨_, rr_58_r kd ep fr wh tp rd bd, AllP.all ⟨h1, h2, h3, h4, h5, h6, h7, h8, h9, h10, h11, h12, h13, h14⟩⟩

theorem rr_59_r (kd ep fr wh tp rd : Int) (bd : List Int) : runF Try.prog D0 [] 200 Try.f15 [.agg (msgP kd ep fr wh tp rd bd)] [.is false, .is false, .is false, .is false, .is false, .is false, .is true, .is false, .is false, .is false, .is true, .is false] =
    some ((Go.Abs.AV.v (Go.Abs.A0.one (Go.Abs.Part.bool Bool.true Bool.false))), [((decide (ep < (0 : Int))) = Bool.false), ((decide (ep > (1048576 : Int))) = Bool.false), ((decide (fr < (1 : Int))) = Bool.false), ((decide (fr > (9 : Int))) = Bool.false), ((decide (rd < (0 : Int))) = Bool.false), ((decide (rd > (1099511627776 : Int))) = Bool.false), ((decide (kd ≥ (1 : Int))) = Bool.true), ((decide (kd ≤ (3 : Int))) = Bool.false), ((wh != (0 : Int)) = Bool.false), ((tp != (0 : Int)) = Bool.false), ((kd == (4 : Int)) = Bool.true), ((rd == (0 : Int)) = Bool.false)]) := by kernel_rfl
theorem rr_59 (kd ep fr wh tp rd : Int) (bd : List Int)
    (h1 : ((decide (ep < (0 : Int))) = Bool.false))
    (h2 : ((decide (ep > (1048576 : Int))) = Bool.false))
    (h3 : ((decide (fr < (1 : Int))) = Bool.false))
    (h4 : ((decide (fr > (9 : Int))) = Bool.false))
    (h5 : ((decide (rd < (0 : Int))) = Bool.false))
    (h6 : ((decide (rd > (1099511627776 : Int))) = Bool.false))
    (h7 : ((decide (kd ≥ (1 : Int))) = Bool.true))
    (h8 : ((decide (kd ≤ (3 : Int))) = Bool.false))
    (h9 : ((wh != (0 : Int)) = Bool.false))
    (h10 : ((tp != (0 : Int)) = Bool.false))
    (h11 : ((kd == (4 : Int)) = Bool.true))
    (h12 : ((rd == (0 : Int)) = Bool.false)) :
    ∃ ps, runF Try.prog D0 [] 200 Try.f15 [.agg (msgP kd ep fr wh tp rd bd)] [.is false, .is false, .is false, .is false, .is false, .is false, .is true, .is false, .is false, .is false, .is true, .is false] = some ((Go.Abs.AV.v (Go.Abs.A0.one (Go.Abs.Part.bool Bool.true Bool.false))), ps) ∧ AllQ ps := ⟨_, rr_59_r kd ep fr wh tp rd bd, AllP.all ⟨h1, h2, h3, h4, h5, h6, h7, h8, h9, h10, h11, h12⟩⟩

theorem rr_60_r (kd ep fr wh tp rd : Int) (bd : List Int) : runF Try.prog D0 [] 200 Try.f15 [.agg (msgP kd ep fr wh tp rd bd)] [.is false, .is false, .is false, .is false, .is false, .is false, .is true, .is false, .is false, .is false, .is true, .is true, .is false] =
    some ((Go.Abs.AV.v (Go.Abs.A0.one (Go.Abs.Part.bool Bool.true Bool.false))), [((decide (ep < (0 : Int))) = Bool.false), ((decide (ep > (1048576 : Int))) = Bool.false), ((decide (fr < (1 : Int))) = Bool.false), ((decide (fr > (9 : Int))) = Bool.false), ((decide (rd < (0 : Int))) = Bool.false), ((decide (rd > (1099511627776 : Int))) = Bool.false), ((decide (kd ≥ (1 : Int))) = Bool.true), ((decide (kd ≤ (3 : Int))) = Bool.false), ((wh != (0 : Int)) = Bool.false), ((tp != (0 : Int)) = Bool.false), ((kd == (4 : Int)) = Bool.true), ((rd == (0 : Int)) = Bool.true), (((((List.length bd) : Nat) : Int) == (32 : Int)) = Bool.false)]) := by kernel_rfl
theorem rr_60 (kd ep fr wh tp rd : Int) (bd : List Int)
    (h1 : ((decide (ep < (0 : Int))) = Bool.false))
    (h2 : ((decide (ep > (1048576 : Int))) = Bool.false))
    (h3 : ((decide (fr < (1 : Int))) = Bool.false))
    (h4 : ((decide (fr > (9 : Int))) = Bool.false))
    (h5 : ((decide (rd < (0 : Int))) = Bool.false))
    (h6 : ((decide (rd > (1099511627776 : Int))) = Bool.false))
    (h7 : ((decide (kd ≥ (1 : Int))) = Bool.true))
    (h8 : ((decide (kd ≤ (3 : Int))) = Bool.false))
    (h9 : ((wh != (0 : Int)) = Bool.false))
    (h10 : ((tp != (0 : Int)) = Bool.false))
    (h11 : ((kd == (4 : Int)) = Bool.true))
    (h12 : ((rd == (0 : Int)) = Bool.true))
    (h13 : (((((List.length bd) : Nat) : Int) == (32 : Int)) = Bool.false)) :
    ∃ ps, runF Try.prog D0 [] 200 Try.f15 [.agg (msgP kd ep fr wh tp rd bd)] [.is false, .is false, .is false, .is false, .is false, .is false, .is true, .is false, .is false, .is false, .is true, .is true, .is false] = some ((Go.Abs.AV.v (Go.Abs.A0.one (Go.Abs.Part.bool Bool.true Bool.false))), ps) ∧ AllQ ps := ⟨_, rr_60_r kd ep fr wh tp rd bd, AllP.all ⟨h1, h2, h3, h4, h5, h6, h7, h8, h9, h10, h11, h12, h13⟩⟩

theorem rr_61_r (kd ep fr wh tp rd : Int) (bd : List Int) : runF Try.prog D0 [] 200 Try.f15 [.agg (msgP kd ep fr wh tp rd bd)] [.is false, .is false, .is false, .is false, .is false, .is false, .is true, .is false, .is false, .is false, .is true, .is true, .is true] =
    some ((Go.Abs.AV.v (Go.Abs.A0.one (Go.Abs.Part.bool Bool.true Bool.true))), [((decide (ep < (0 : Int))) = Bool.false), ((decide (ep > (1048576 : Int))) = Bool.false), ((decide (fr < (1 : Int))) = Bool.false), ((decide (fr > (9 : Int))) = Bool.false), ((decide (rd < (0 : Int))) = Bool.false), ((decide (rd > (1099511627776 : Int))) = Bool.false), ((decide (kd ≥ (1 : Int))) = Bool.true), ((decide (kd ≤ (3 : Int))) = Bool.false), ((wh != (0 : Int)) = Bool.false), ((tp != (0 : Int)) = Bool.false), ((kd == (4 : Int)) = Bool.true), ((rd == (0 : Int)) = Bool.true), (((((List.length bd) : Nat) : Int) == (32 : Int)) = Bool.true)]) := by kernel_rfl
theorem rr_61 (kd ep fr wh tp rd : Int) (bd : List Int)
    (h1 : ((decide (ep < (0 : Int))) = Bool.false))
    (h2 : ((decide (ep > (1048576 : Int))) = Bool.false))
    (h3 : ((decide (fr < (1 : Int))) = Bool.false))
    (h4 : ((decide (fr > (9 : Int))) = Bool.false))
    (h5 : ((decide (rd < (0 : Int))) = Bool.false))
    (h6 : ((decide (rd > (1099511627776 : Int))) = Bool.false))
    (h7 : ((decide (kd ≥ (1 : Int))) = Bool.true))
    (h8 : ((decide (kd ≤ (3 : Int))) = Bool.false))
    (h9 : ((wh != (0 : Int)) = Bool.false))
    (h10 : ((tp != (0 : Int)) = Bool.false))
    (h11 : ((kd == (4 : Int)) = Bool.true))
    (h12 : ((rd == (0 : Int)) = Bool.true))
    (h13 : (((((List.length bd) : Nat) : Int) == (32 : Int)) = Bool.true)) :
    ∃ ps, runF Try.prog D0 [] 200 Try.f15 [.agg (msgP kd ep fr wh tp rd bd)] [.is false, .is false, .is false, .is false, .is false, .is false, .is true, .is false, .is false, .is false, .is true, .is true, .is true] = some ((Go.Abs.AV.v (Go.Abs.A0.one (Go.Abs.Part.bool Bool.true Bool.true))), ps) ∧ AllQ ps := ⟨_, rr_61_r kd ep fr wh tp rd bd, AllP.all ⟨h1, h2, h3, h4, h5, h6, h7, h8, h9, h10, h11, h12, h13⟩⟩

theorem rr_62_r (kd ep fr wh tp rd : Int) (bd : List Int) : runF Try.prog D0 [] 200 Try.f15 [.agg (msgP kd ep fr wh tp rd bd)] [.is false, .is false, .is false, .is false, .is false, .is false, .is true, .is false, .is false, .is true] =
    some ((Go.Abs.AV.v (Go.Abs.A0.one (Go.Abs.Part.bool Bool.true Bool.false))), [((decide (ep < (0 : Int))) = Bool.false), ((decide (ep > (1048576 : Int))) = Bool.false), ((decide (fr < (1 : Int))) = Bool.false), ((decide (fr > (9 : Int))) = Bool.false), ((decide (rd < (0 : Int))) = Bool.false), ((decide (rd > (1099511627776 : Int))) = Bool.false), ((decide (kd ≥ (1 : Int))) = Bool.true), ((decide (kd ≤ (3 : Int))) = Bool.false), ((wh != (0 : Int)) = Bool.false), ((tp != (0 : Int)) = Bool.true)]) := by kernel_rfl
theorem rr_62 (kd ep fr wh tp rd : Int) (bd : List Int)
    (h1 : ((decide (ep < (0 : Int))) = Bool.false))
    (h2 : ((decide (ep > (1048576 : Int))) = Bool.false))
    (h3 : ((decide (fr < (1 : Int))) = Bool.false))
    (h4 : ((decide (fr > (9 : Int))) = Bool.false))
    (h5 : ((decide (rd < (0 : Int))) = Bool.false))
    (h6 : ((decide (rd > (1099511627776 : Int))) = Bool.false))
    (h7 : ((decide (kd ≥ (1 : Int))) = Bool.true))
    (h8 : ((decide (kd ≤ (3 : Int))) = Bool.false))
    (h9 : ((wh != (0 : Int)) = Bool.false))
    (h10 : ((tp != (0 : Int)) = Bool.true)) :
    ∃ ps, runF Try.prog D0 [] 200 Try.f15 [.agg (msgP kd ep fr wh tp rd bd)] [.is false, .is false, .is false, .is false, .is false, .is false, .is true, .is false, .is false, .is true] = some ((Go.Abs.AV.v (Go.Abs.A0.one (Go.Abs.Part.bool Bool.true Bool.false))), ps) ∧ AllQ ps := ⟨_, rr_62_r kd ep fr wh tp rd bd, AllP.all ⟨h1, h2, h3, h4, h5, h6, h7, h8, h9, h10⟩⟩

theorem rr_63_r (kd ep fr wh tp rd : Int) (bd : List Int) : runF Try.prog D0 [] 200 Try.f15 [.agg (msgP kd ep fr wh tp rd bd)] [.is false, .is false, .is false, .is false, .is false, .is false, .is true, .is false, .is true] =
    some ((Go.Abs.AV.v (Go.Abs.A0.one (Go.Abs.Part.bool Bool.true Bool.false))), [((decide (ep < (0 : Int))) = Bool.false), ((decide (ep > (1048576 : Int))) = Bool.false), ((decide (fr < (1 : Int))) = Bool.false), ((decide (fr > (9 : Int))) = Bool.false), ((decide (rd < (0 : Int))) = Bool.false), ((decide (rd > (1099511627776 : Int))) = Bool.false), ((decide (kd ≥ (1 : Int))) = Bool.true), ((decide (kd ≤ (3 : Int))) = Bool.false), ((wh != (0 : Int)) = Bool.true)]) := by kernel_rfl
theorem rr_63 (kd ep fr wh tp rd : Int) (bd : List Int)
    (h1 : ((decide (ep < (0 : Int))) = Bool.false))
    (h2 : ((decide (ep > (1048576 : Int))) = Bool.false))
    (h3 : ((decide (fr < (1 : Int))) = Bool.false))
    (h4 : ((decide (fr > (9 : Int))) = Bool.false))
    (h5 : ((decide (rd < (0 : Int))) = Bool.false))
    (h6 : ((decide (rd > (1099511627776 : Int))) = Bool.false))
    (h7 : ((decide (kd ≥ (1 : Int))) = Bool.true))
    (h8 : ((decide (kd ≤ (3 : Int))) = Bool.false))
    (h9 : ((wh != (0 : Int)) = Bool.true)) :
    ∃ ps, runF Try.prog D0 [] 200 Try.f15 [.agg (msgP kd ep fr wh tp rd bd)] [.is false, .is false, .is false, .is false, .is false, .is false, .is true, .is false, .is true] = some ((Go.Abs.AV.v (Go.Abs.A0.one (Go.Abs.Part.bool Bool.true Bool.false))), ps) ∧ AllQ ps := ⟨_, rr_63_r kd ep fr wh tp rd bd, AllP.all ⟨h1, h2, h3, h4, h5, h6, h7, h8, h9⟩⟩

theorem rr_64_r (kd ep fr wh tp rd : Int) (bd : List Int) : runF Try.prog D0 [] 200 Try.f15 [.agg (msgP kd ep fr wh tp rd bd)] [.is false, .is false, .is false, .is false, .is false, .is false, .is true, .is true, .is false] =
    some ((Go.Abs.AV.v (Go.Abs.A0.one (Go.Abs.Part.bool Bool.true Bool.false))), [((decide (ep < (0 : Int))) = Bool.false), ((decide (ep > (1048576 : Int))) = Bool.false), ((decide (fr < (1 : Int))) = Bool.false), ((decide (fr > (9 : Int))) = Bool.false), ((decide (rd < (0 : Int))) = Bool.false), ((decide (rd > (1099511627776 : Int))) = Bool.false), ((decide (kd ≥ (1 : Int))) = Bool.true), ((decide (kd ≤ (3 : Int))) = Bool.true), ((decide (wh ≥ (1 : Int))) = Bool.false)]) := by kernel_rfl
theorem rr_64 (kd ep fr wh tp rd : Int) (bd : List Int)
    (h1 : ((decide (ep < (0 : Int))) = Bool.false))
    (h2 : ((decide (ep > (1048576 : Int))) = Bool.false))
    (h3 : ((decide (fr < (1 : Int))) = Bool.false))
    (h4 : ((decide (fr > (9 : Int))) = Bool.false))
    (h5 : ((decide (rd < (0 : Int))) = Bool.false))
    (h6 : ((decide (rd > (1099511627776 : Int))) = Bool.false))
    (h7 : ((decide (kd ≥ (1 : Int))) = Bool.true))
    (h8 : ((decide (kd ≤ (3 : Int))) = Bool.true))
    (h9 : ((decide (wh ≥ (1 : Int))) = Bool.false)) :
    ∃ ps, runF Try.prog D0 [] 200 Try.f15 [.agg (msgP kd ep fr wh tp rd bd)] [.is false, .is false, .is false, .is false, .is false, .is false, .is true, .is true, .is false] = some ((Go.Abs.AV.v (Go.Abs.A0.one (Go.Abs.Part.bool Bool.true Bool.false))), ps) ∧ AllQ ps := ⟨_, rr_64_r kd ep fr wh tp rd bd, AllP.all ⟨h1, h2, h3, h4, h5, h6, h7, h8, h9⟩⟩

theorem rr_65_r (kd ep fr wh tp rd : Int) (bd : List Int) : runF Try.prog D0 [] 200 Try.f15 [.agg (msgP kd ep fr wh tp rd bd)] [.is false, .is false, .is false, .is false, .is false, .is false, .is true, .is true, .is true, .is false] =
    some ((Go.Abs.AV.v (Go.Abs.A0.one (Go.Abs.Part.bool Bool.true Bool.false))), [((decide (ep < (0 : Int))) = Bool.false), ((decide (ep > (1048576 : Int))) = Bool.false), ((decide (fr < (1 : Int))) = Bool.false), ((decide (fr > (9 : Int))) = Bool.false), ((decide (rd < (0 : Int))) = Bool.false), ((decide (rd > (1099511627776 : Int))) = Bool.false), ((decide (kd ≥ (1 : Int))) = Bool.true), ((decide (kd ≤ (3 : Int))) = Bool.true), ((decide (wh ≥ (1 : Int))) = Bool.true), ((decide (wh ≤ (9 : Int))) = Bool.false)]) := by kernel_rfl
theorem rr_65 (kd ep fr wh tp rd : Int) (bd : List Int)
    (h1 : ((decide (ep < (0 : Int))) = Bool.false))
    (h2 : ((decide (ep > (1048576 : Int))) = Bool.false))
    (h3 : ((decide (fr < (1 : Int))) = Bool.false))
    (h4 : ((decide (fr > (9 : Int))) = Bool.false))
    (h5 : ((decide (rd < (0 : Int))) = Bool.false))
    (h6 : ((decide (rd > (1099511627776 : Int))) = Bool.false))
    (h7 : ((decide (kd ≥ (1 : Int))) = Bool.true))
    (h8 : ((decide (kd ≤ (3 : Int))) = Bool.true))
    (h9 : ((decide (wh ≥ (1 : Int))) = Bool.true))
    (h10 : ((decide (wh ≤ (9 : Int))) = Bool.false)) :
    ∃ ps, runF Try.prog D0 [] 200 Try.f15 [.agg (msgP kd ep fr wh tp rd bd)] [.is false, .is false, .is false, .is false, .is false, .is false, .is true, .is true, .is true, .is false] = some ((Go.Abs.AV.v (Go.Abs.A0.one (Go.Abs.Part.bool Bool.true Bool.false))), ps) ∧ AllQ ps := ⟨_, rr_65_r kd ep fr wh tp rd bd, AllP.all ⟨h1, h2, h3, h4, h5, h6, h7, h8, h9, h10⟩⟩

theorem rr_66_r (kd ep fr wh tp rd : Int) (bd : List Int) : runF Try.prog D0 [] 200 Try.f15 [.agg (msgP kd ep fr wh tp rd bd)] [.is false, .is false, .is false, .is false, .is false, .is false, .is true, .is true, .is true, .is true, .is false] =
    some ((Go.Abs.AV.v (Go.Abs.A0.one (Go.Abs.Part.bool Bool.true Bool.false))), [((decide (ep < (0 : Int))) = Bool.false), ((decide (ep > (1048576 : Int))) = Bool.false), ((decide (fr < (1 : Int))) = Bool.false), ((decide (fr > (9 : Int))) = Bool.false), ((decide (rd < (0 : Int))) = Bool.false), ((decide (rd > (1099511627776 : Int))) = Bool.false), ((decide (kd ≥ (1 : Int))) = Bool.true), ((decide (kd ≤ (3 : Int))) = Bool.true), ((decide (wh ≥ (1 : Int))) = Bool.true), ((decide (wh ≤ (9 : Int))) = Bool.true), ((decide (tp ≥ (1 : Int))) = Bool.false)]) := by kernel_rfl
theorem rr_66 (kd ep fr wh tp rd : Int) (bd : List Int)
    (h1 : ((decide (ep < (0 : Int))) = Bool.false))
    (h2 : ((decide (ep > (1048576 : Int))) = Bool.false))
    (h3 : ((decide (fr < (1 : Int))) = Bool.false))
    (h4 : ((decide (fr > (9 : Int))) = Bool.false))
    (h5 : ((decide (rd < (0 : Int))) = Bool.false))
    (h6 : ((decide (rd > (1099511627776 : Int))) = Bool.false))
    (h7 : ((decide (kd ≥ (1 : Int))) = Bool.true))
    (h8 : ((decide (kd ≤ (3 : Int))) = Bool.true))
    (h9 : ((decide (wh ≥ (1 : Int))) = Bool.true))
    (h10 : ((decide (wh ≤ (9 : Int))) = Bool.true))
    (h11 : ((decide (tp ≥ (1 : Int))) = Bool.false)) :
    ∃ ps, runF Try.prog D0 [] 200 Try.f15 [.agg (msgP kd ep fr wh tp rd bd)] [.is false, .is false, .is false, .is false, .is false, .is false, .is true, .is true, .is true, .is true, .is false] = some ((Go.Abs.AV.v (Go.Abs.A0.one (Go.Abs.Part.bool Bool.true Bool.false))), ps) ∧ AllQ ps := ⟨_, rr_66_r kd ep fr wh tp rd bd, AllP.all ⟨h1, h2, h3, h4, h5, h6, h7, h8, h9, h10, h11⟩⟩

theorem rr_67_r (kd ep fr wh tp rd : Int) (bd : List Int) : runF Try.prog D0 [] 200 Try.f15 [.agg (msgP kd ep fr wh tp rd bd)] [.is false, .is false, .is false, .is false, .is false, .is false, .is true, .is true, .is true, .is true, .is true, .is false] =
    some ((Go.Abs.AV.v (Go.Abs.A0.one (Go.Abs.Part.bool Bool.true Bool.false))), [((decide (ep < (0 : Int))) = Bool.false), ((decide (ep > (1048576 : Int))) = Bool.false), ((decide (fr < (1 : Int))) = Bool.false), ((decide (fr > (9 : Int))) = Bool.false), ((decide (rd < (0 : Int))) = Bool.false), ((decide (rd > (1099511627776 : Int))) = Bool.false), ((decide (kd ≥ (1 : Int))) = Bool.true), ((decide (kd ≤ (3 : Int))) = Bool.true), ((decide (wh ≥ (1 : Int))) = Bool.true), ((decide (wh ≤ (9 : Int))) = Bool.true), ((decide (tp ≥ (1 : Int))) = Bool.true), ((decide (tp ≤ (3 : Int))) = Bool.false)]) := by kernel_rfl
theorem rr_67 (kd ep fr wh tp rd : Int) (bd : List Int)
    (h1 : ((decide (ep < (0 : Int))) = Bool.false))
    (h2 : ((decide (ep > (1048576 : Int))) = Bool.false))
    (h3 : ((decide (fr < (1 : Int))) = Bool.false))
    (h4 : ((decide (fr > (9 : Int))) = Bool.false))
    (h5 : ((decide (rd < (0 : Int))) = Bool.false))
    (h6 : ((decide (rd > (1099511627776 : Int))) = Bool.false))
    (h7 : ((decide (kd ≥ (1 : Int))) = Bool.true))
    (h8 : ((decide (kd ≤ (3 : Int))) = Bool.true))
    (h9 : ((decide (wh ≥ (1 : Int))) = Bool.true))
    (h10 : ((decide (wh ≤ (9 : Int))) = Bool.true))
    (h11 : ((decide (tp ≥ (1 : Int))) = Bool.true))
    (h12 : ((decide (tp ≤ (3 : Int))) = Bool.false)) :
    ∃ ps, runF Try.prog D0 [] 200 Try.f15 [.agg (msgP kd ep fr wh tp rd bd)] [.is false, .is false, .is false, .is false, .is false, .is false, .is true, .is true, .is true, .is true, .is true, .is false] = some ((Go.Abs.AV.v (Go.Abs.A0.one (Go.Abs.Part.bool Bool.true Bool.false))), ps) ∧ AllQ ps := ⟨_, rr_67_r kd ep fr wh tp rd bd, AllP.all ⟨h1, h2, h3, h4, h5, h6, h7, h8, h9, h10, h11, h12⟩⟩

theorem rr_68_r (kd ep fr wh tp rd : Int) (bd : List Int) : runF Try.prog D0 [] 200 Try.f15 [.agg (msgP kd ep fr wh tp rd bd)] [.is false, .is false, .is false, .is false, .is false, .is false, .is true, .is true, .is true, .is true, .is true, .is true, .is false] =
    some ((Go.Abs.AV.v (Go.Abs.A0.one (Go.Abs.Part.bool Bool.true Bool.false))), [((decide (ep < (0 : Int))) = Bool.false), ((decide (ep > (1048576 : Int))) = Bool.false), ((decide (fr < (1 : Int))) = Bool.false), ((decide (fr > (9 : Int))) = Bool.false), ((decide (rd < (0 : Int))) = Bool.false), ((decide (rd > (1099511627776 : Int))) = Bool.false), ((decide (kd ≥ (1 : Int))) = Bool.true), ((decide (kd ≤ (3 : Int))) = Bool.true), ((decide (wh ≥ (1 : Int))) = Bool.true), ((decide (wh ≤ (9 : Int))) = Bool.true), ((decide (tp ≥ (1 : Int))) = Bool.true), ((decide (tp ≤ (3 : Int))) = Bool.true), ((rd == (0 : Int)) = Bool.false)]) := by kernel_rfl
theorem rr_68 (kd ep fr wh tp rd : Int) (bd : List Int)
    (h1 : ((decide (ep < (0 : Int))) = Bool.false))
    (h2 : ((decide (ep > (1048576 : Int))) = Bool.false))
    (h3 : ((decide (fr < (1 : Int))) = Bool.false))
    (h4 : ((decide (fr > (9 : Int))) = Bool.false))
    (h5 : ((decide (rd < (0 : Int))) = Bool.false))
    (h6 : ((decide (rd > (1099511627776 : Int))) = Bool.false))
    (h7 : ((decide (kd ≥ (1 : Int))) = Bool.true))
    (h8 : ((decide (kd ≤ (3 : Int))) = Bool.true))
    (h9 : ((decide (wh ≥ (1 : Int))) = Bool.true))
    (h10 : ((decide (wh ≤ (9 : Int))) = Bool.true))
    (h11 : ((decide (tp ≥ (1 : Int))) = Bool.true))
    (h12 : ((decide (tp ≤ (3 : Int))) = Bool.true))
    (h13 : ((rd == (0 : Int)) = Bool.false)) :
    ∃ ps, runF Try.prog D0 [] 200 Try.f15 [.agg (msgP kd ep fr wh tp rd bd)] [.is false, .is false, .is false, .is false, .is false, .is false, .is true, .is true, .is true, .is true, .is true, .is true, .is false] = some ((Go.Abs.AV.v (Go.Abs.A0.one (Go.Abs.Part.bool Bool.true Bool.false))), ps) ∧ AllQ ps := ⟨_, rr_68_r kd ep fr wh tp rd bd, AllP.all ⟨h1, h2, h3, h4, h5, h6, h7, h8, h9, h10, h11, h12, h13⟩⟩

theorem rr_69_r (kd ep fr wh tp rd : Int) (bd : List Int) : runF Try.prog D0 [] 200 Try.f15 [.agg (msgP kd ep fr wh tp rd bd)] [.is false, .is false, .is false, .is false, .is false, .is false, .is true, .is true, .is true, .is true, .is true, .is true, .is true, .is false] =
    some ((Go.Abs.AV.v (Go.Abs.A0.one (Go.Abs.Part.bool Bool.true Bool.false))), [((decide (ep < (0 : Int))) = Bool.false), ((decide (ep > (1048576 : Int))) = Bool.false), ((decide (fr < (1 : Int))) = Bool.false), ((decide (fr > (9 : Int))) = Bool.false), ((decide (rd < (0 : Int))) = Bool.false), ((decide (rd > (1099511627776 : Int))) = Bool.false), ((decide (kd ≥ (1 : Int))) = Bool.true), ((decide (kd ≤ (3 : Int))) = Bool.true), ((decide (wh ≥ (1 : Int))) = Bool.true), ((decide (wh ≤ (9 : Int))) = Bool.true), ((decide (tp ≥ (1 : Int))) = Bool.true), ((decide (tp ≤ (3 : Int))) = Bool.true), ((rd == (0 : Int)) = Bool.true), ((decide ((((List.length bd) : Nat) : Int) ≥ (1 : Int))) = Bool.false)]) := by kernel_rfl
theorem rr_69 (kd ep fr wh tp rd : Int) (bd : List Int)
    (h1 : ((decide (ep < (0 : Int))) = Bool.false))
    (h2 : ((decide (ep > (1048576 : Int))) = Bool.false))
    (h3 : ((decide (fr < (1 : Int))) = Bool.false))
    (h4 : ((decide (fr > (9 : Int))) = Bool.false))
    (h5 : ((decide (rd < (0 : Int))) = Bool.false))
    (h6 : ((decide (rd > (1099511627776 : Int))) = Bool.false))
    (h7 : ((decide (kd ≥ (1 : Int))) = Bool.true))
    (h8 : ((decide (kd ≤ (3 : Int))) = Bool.true))
    (h9 : ((decide (wh ≥ (1 : Int))) = Bool.true))
    (h10 : ((decide (wh ≤ (9 : Int))) = Bool.true))
    (h11 : ((decide (tp ≥ (1 : Int))) = Bool.true))
    (h12 : ((decide (tp ≤ (3 : Int))) = Bool.true))
    (h13 : ((rd == (0 : Int)) = Bool.true))
    (h14 : ((decide ((((List.length bd) : Nat) : Int) ≥ (1 : Int))) = Bool.false)) :
    ∃ ps, runF Try.prog D0 [] 200 Try.f15 [.agg (msgP kd ep fr wh tp rd bd)] [.is false, .is false, .is false, .is false, .is false, .is false, .is true, .is true, .is true, .is true, .is true, .is true, .is true, .is false] = some ((Go.Abs.AV.v (Go.Abs.A0.one (Go.Abs.Part.bool Bool.true Bool.false))), ps) ∧ AllQ ps := ⟨_, rr_69_r kd ep fr wh tp rd bd, AllP.all ⟨h1, h2, h3, h4, h5, h6, h7, h8, h9, h10, h11, h12, h13, h14⟩⟩

theorem rr_70_r (kd ep fr wh tp rd : Int) (bd : List Int) : runF Try.prog D0 [] 200 Try.f15 [.agg (msgP kd ep fr wh tp rd bd)] [.is false, .is false, .is false, .is false, .is false, .is false, .is true, .is true, .is true, .is true, .is true, .is true, .is true, .is true, .is false] =
    some ((Go.Abs.AV.v (Go.Abs.A0.one (Go.Abs.Part.bool Bool.true Bool.false))), [((decide (ep < (0 : Int))) = Bool.false), ((decide (ep > (1048576 : Int))) = Bool.false), ((decide (fr < (1 : Int))) = Bool.false), ((decide (fr > (9 : Int))) = Bool.false), ((decide (rd < (0 : Int))) = Bool.false), ((decide (rd > (1099511627776 : Int))) = Bool.false), ((decide (kd ≥ (1 : Int))) = Bool.true), ((decide (kd ≤ (3 : Int))) = Bool.true), ((decide (wh ≥ (1 : Int))) = Bool.true), ((decide (wh ≤ (9 : Int))) = Bool.true), ((decide (tp ≥ (1 : Int))) = Bool.true), ((decide (tp ≤ (3 : Int))) = Bool.true), ((rd == (0 : Int)) = Bool.true), ((decide ((((List.length bd) : Nat) : Int) ≥ (1 : Int))) = Bool.true), ((decide ((((List.length bd) : Nat) : Int) ≤ (4096 : Int))) = Bool.false)]) := by kernel_rfl
theorem rr_70 (kd ep fr wh tp rd : Int) (bd : List Int)
    (h1 : ((decide (ep < (0 : Int))) = Bool.false))
    (h2 : ((decide (ep > (1048576 : Int))) = Bool.false))
    (h3 : ((decide (fr < (1 : Int))) = Bool.false))
    (h4 : ((decide (fr > (9 : Int))) = Bool.false))
    (h5 : ((decide (rd < (0 : Int))) = Bool.false))
    (h6 : ((decide (rd > (1099511627776 : Int))) = Bool.false))
    (h7 : ((decide (kd ≥ (1 : Int))) = Bool.true))
    (h8 : ((decide (kd ≤ (3 : Int))) = Bool.true))
    (h9 : ((decide (wh ≥ (1 : Int))) = Bool.true))
    (h10 : ((decide (wh ≤ (9 : Int))) = Bool.true))
    (h11 : ((decide (tp ≥ (1 : Int))) = Bool.true))
    (h12 : ((decide (tp ≤ (3 : Int))) = Bool.true))
    (h13 : ((rd == (0 : Int)) = Bool.true))
    (h14 : ((decide ((((List.length bd) : Nat) : Int) ≥ (1 : Int))) = Bool.true))
    (h15 : ((decide ((((List.length bd) : Nat) : Int) ≤ (4096 : Int))) = Bool.false)) :
    ∃ ps, runF Try.prog D0 [] 200 Try.f15 [.agg (msgP kd ep fr wh tp rd bd)] [.is false, .is false, .is false, .is false, .is false, .is false, .is true, .is true, .is true, .is true, .is true, .is true, .is true, .is true, .is false] = some ((Go.Abs.AV.v (Go.Abs.A0.one (Go.Abs.Part.bool Bool.true Bool.false))), ps) ∧ AllQ ps := ⟨_, rr_70_r kd ep fr wh tp rd bd, AllP.all ⟨h1, h2, h3, h4, h5, h6, h7, h8, h9, h10, h11, h12, h13, h14, h15⟩⟩

theorem rr_71_r (kd ep fr wh tp rd : Int) (bd : List Int) : runF Try.prog D0 [] 200 Try.f15 [.agg (msgP kd ep fr wh tp rd bd)] [.is false, .is false, .is false, .is false, .is false, .is false, .is true, .is true, .is true, .is true, .is true, .is true, .is true, .is true, .is true, .is false, .is false] =
    some ((Go.Abs.AV.v (Go.Abs.A0.one (Go.Abs.Part.bool Bool.true Bool.false))), [((decide (ep < (0 : Int))) = Bool.false), ((decide (ep > (1048576 : Int))) = Bool.false), ((decide (fr < (1 : Int))) = Bool.false), ((decide (fr > (9 : Int))) = Bool.false), ((decide (rd < (0 : Int))) = Bool.false), ((decide (rd > (1099511627776 : Int))) = Bool.false), ((decide (kd ≥ (1 : Int))) = Bool.true), ((decide (kd ≤ (3 : Int))) = Bool.true), ((decide (wh ≥ (1 : Int))) = Bool.true), ((decide (wh ≤ (9 : Int))) = Bool.true), ((decide (tp ≥ (1 : Int))) = Bool.true), ((decide (tp ≤ (3 : Int))) = Bool.true), ((rd == (0 : Int)) = Bool.true), ((decide ((((List.length bd) : Nat) : Int) ≥ (1 : Int))) = Bool.true), ((decide ((((List.length bd) : Nat) : Int) ≤ (4096 : Int))) = Bool.true), ((decide (kd > (1 : Int))) = Bool.false), ((wh == fr) = Bool.false)]) := by kernel_rfl
theorem rr_71 (kd ep fr wh tp rd : Int) (bd : List Int)
    (h1 : ((decide (ep < (0 : Int))) = Bool.false))
    (h2 : ((decide (ep > (1048576 : Int))) = Bool.false))
    (h3 : ((decide (fr < (1 : Int))) = Bool.false))
    (h4 : ((decide (fr > (9 : Int))) = Bool.false))
    (h5 : ((decide (rd < (0 : Int))) = Bool.false))
    (h6 : ((decide (rd > (1099511627776 : Int))) = Bool.false))
    (h7 : ((decide (kd ≥ (1 : Int))) = Bool.true))
    (h8 : ((decide (kd ≤ (3 : Int))) = Bool.true))
    (h9 : ((decide (wh ≥ (1 : Int))) = Bool.true))
    (h10 : ((decide (wh ≤ (9 : Int))) = Bool.true))
    (h11 : ((decide (tp ≥ (1 : Int))) = Bool.true))
    (h12 : ((decide (tp ≤ (3 : Int))) = Bool.true))
    (h13 : ((rd == (0 : Int)) = Bool.true))
    (h14 : ((decide ((((List.length bd) : Nat) : Int) ≥ (1 : Int))) = Bool.true))
    (h15 : ((decide ((((List.length bd) : Nat) : Int) ≤ (4096 : Int))) = Bool.true))
    (h16 : ((decide (kd > (1 : Int))) = Bool.false))
    (h17 : ((wh == fr) = Bool.false)) :
    ∃ ps, runF Try.prog D0 [] 200 Try.f15 [.agg (msgP kd ep fr wh tp rd bd)] [.is false, .is false, .is false, .is false, .is false, .is false, .is true, .is true, .is true, .is true, .is true, .is true, .is true, .is true, .is true, .is false, .is false] = some ((Go.Abs.AV.v (Go.Abs.A0.one (Go.Abs.Part.bool Bool.true Bool.false))), ps) ∧ AllQ ps := ⟨_, rr_71_r kd ep fr wh tp rd bd, AllP.all ⟨h1, h2, h3, h4, h5, h6, h7, h8, h9, h10, h11, h12, h13, h14, h15, h16, h17⟩⟩

theorem rr_72_r (kd ep fr wh tp rd : Int) (bd : List Int) : runF Try.prog D0 [] 200 Try.f15 [.agg (msgP kd ep fr wh tp rd bd)] [.is false, .is false, .is false, .is false, .is false, .is false, .is true, .is true, .is true, .is true, .is true, .is true, .is true, .is true, .is true, .is false, .is true] =
    some ((Go.Abs.AV.v (Go.Abs.A0.one (Go.Abs.Part.bool Bool.true Bool.true))), [((decide (ep < (0 : Int))) = Bool.false), ((decide (ep > (1048576 : Int))) = Bool.false), ((decide (fr < (1 : Int))) = Bool.false), ((decide (fr > (9 : Int))) = Bool.false), ((decide (rd < (0 : Int))) = Bool.false), ((decide (rd > (1099511627776 : Int))) = Bool.false), ((decide (kd ≥ (1 : Int))) = Bool.true), ((decide (kd ≤ (3 : Int))) = Bool.true), ((decide (wh ≥ (1 : Int))) = Bool.true), ((decide (wh ≤ (9 : Int))) = Bool.true), ((decide (tp ≥ (1 : Int))) = Bool.true), ((decide (tp ≤ (3 : Int))) = Bool.true), ((rd == (0 : Int)) = Bool.true), ((decide ((((List.length bd) : Nat) : Int) ≥ (1 : Int))) = Bool.true), ((decide ((((List.length bd) : Nat) : Int) ≤ (4096 : Int))) = Bool.true), ((decide (kd > (1 : Int))) = Bool.false), ((wh == fr) = Bool.true)]) := by kernel_rfl
theorem rr_72 (kd ep fr wh tp rd : Int) (bd : List Int)
    (h1 : ((decide (ep < (0 : Int))) = Bool.false))
    (h2 : ((decide (ep > (1048576 : Int))) = Bool.false))
    (h3 : ((decide (fr < (1 : Int))) = Bool.false))
    (h4 : ((decide (fr > (9 : Int))) = Bool.false))
    (h5 : ((decide (rd < (0 : Int))) = Bool.false))
    (h6 : ((decide (rd > (1099511627776 : Int))) = Bool.false))
    (h7 : ((decide (kd ≥ (1 : Int))) = Bool.true))
    (h8 : ((decide (kd ≤ (3 : Int))) = Bool.true))
    (h9 : ((decide (wh ≥ (1 : Int))) = Bool.true))
    (h10 : ((decide (wh ≤ (9 : Int))) = Bool.true))
    (h11 : ((decide (tp ≥ (1 : Int))) = Bool.true))
    (h12 : ((decide (tp ≤ (3 : Int))) = Bool.true))
    (h13 : ((rd == (0 : Int)) = Bool.true))
    (h14 : ((decide ((((List.length bd) : Nat) : Int) ≥ (1 : Int))) = Bool.true))
    (h15 : ((decide ((((List.length bd) : Nat) : Int) ≤ (4096 : Int))) = Bool.true))
    (h16 : ((decide (kd > (1 : Int))) = Bool.false))
    (h17 : ((wh == fr) = Bool.true)) :
    ∃ ps, runF Try.prog D0 [] 200 Try.f15 [.agg (msgP kd ep fr wh tp rd bd)] [.is false, .is false, .is false, .is false, .is false, .is false, .is true, .is true, .is true, .is true, .is true, .is true, .is true, .is true, .is true, .is false, .is true] = some ((Go.Abs.AV.v (Go.Abs.A0.one (Go.Abs.Part.bool Bool.true Bool.true))), ps) ∧ AllQ ps := ⟨_, rr_72_r kd ep fr wh tp rd bd, AllP.all ⟨h1, h2, h3, h4, h5, h6, h7, h8, h9, h10, h11, h12, h13, h14, h15, h16, h17⟩⟩

theorem rr_73_r (kd ep fr wh tp rd : Int) (bd : List Int) : runF Try.prog D0 [] 200 Try.f15 [.agg (msgP kd ep fr wh tp rd bd)] [.is false, .is false, .is false, .is false, .is false, .is false, .is true, .is true, .is true, .is true, .is true, .is true, .is true, .is true, .is true, .is true] =
    some ((Go.Abs.AV.v (Go.Abs.A0.one (Go.Abs.Part.bool Bool.true Bool.true))), [((decide (ep < (0 : Int))) = Bool.false), ((decide (ep > (1048576 : Int))) = Bool.false), ((decide (fr < (1 : Int))) = Bool.false), ((decide (fr > (9 : Int))) = Bool.false), ((decide (rd < (0 : Int))) = Bool.false), ((decide (rd > (1099511627776 : Int))) = Bool.false), ((decide (kd ≥ (1 : Int))) = Bool.true), ((decide (kd ≤ (3 : Int))) = Bool.true), ((decide (wh ≥ (1 : Int))) = Bool.true), ((decide (wh ≤ (9 : Int))) = Bool.true), ((decide (tp ≥ (1 : Int))) = Bool.true), ((decide (tp ≤ (3 : Int))) = Bool.true), ((rd == (0 : Int)) = Bool.true), ((decide ((((List.length bd) : Nat) : Int) ≥ (1 : Int))) = Bool.true), ((decide ((((List.length bd) : Nat) : Int) ≤ (4096 : Int))) = Bool.true), ((decide (kd > (1 : Int))) = Bool.true)]) := by kernel_rfl
theorem rr_73 (kd ep fr wh tp rd : Int) (bd : List Int)
    (h1 : ((decide (ep < (0 : Int))) = Bool.false))
    (h2 : ((decide (ep > (1048576 : Int))) = Bool.false))
    (h3 : ((decide (fr < (1 : Int))) = Bool.false))
    (h4 : ((decide (fr > (9 : Int))) = Bool.false))
    (h5 : ((decide (rd < (0 : Int))) = Bool.false))
    (h6 : ((decide (rd > (1099511627776 : Int))) = Bool.false))
    (h7 : ((decide (kd ≥ (1 : Int))) = Bool.true))
    (h8 : ((decide (kd ≤ (3 : Int))) = Bool.true))
    (h9 : ((decide (wh ≥ (1 : Int))) = Bool.true))
    (h10 : ((decide (wh ≤ (9 : Int))) = Bool.true))
    (h11 : ((decide (tp ≥ (1 : Int))) = Bool.true))
    (h12 : ((decide (tp ≤ (3 : Int))) = Bool.true))
    (h13 : ((rd == (0 : Int)) = Bool.true))
    (h14 : ((decide ((((List.length bd) : Nat) : Int) ≥ (1 : Int))) = Bool.true))
    (h15 : ((decide ((((List.length bd) : Nat) : Int) ≤ (4096 : Int))) = Bool.true))
    (h16 : ((decide (kd > (1 : Int))) = Bool.true)) :
    ∃ ps, runF Try.prog D0 [] 200 Try.f15 [.agg (msgP kd ep fr wh tp rd bd)] [.is false, .is false, .is false, .is false, .is false, .is false, .is true, .is true, .is true, .is true, .is true, .is true, .is true, .is true, .is true, .is true] = some ((Go.Abs.AV.v (Go.Abs.A0.one (Go.Abs.Part.bool Bool.true Bool.true))), ps) ∧ AllQ ps := ⟨_, rr_73_r kd ep fr wh tp rd bd, AllP.all ⟨h1, h2, h3, h4, h5, h6, h7, h8, h9, h10, h11, h12, h13, h14, h15, h16⟩⟩

theorem rr_74_r (kd ep fr wh tp rd : Int) (bd : List Int) : runF Try.prog D0 [] 200 Try.f15 [.agg (msgP kd ep fr wh tp rd bd)] [.is false, .is false, .is false, .is false, .is false, .is true] =
    some ((Go.Abs.AV.v (Go.Abs.A0.one (Go.Abs.Part.bool Bool.true Bool.false))), [((decide (ep < (0 : Int))) = Bool.false), ((decide (ep > (1048576 : Int))) = Bool.false), ((decide (fr < (1 : Int))) = Bool.false), ((decide (fr > (9 : Int))) = Bool.false), ((decide (rd < (0 : Int))) = Bool.false), ((decide (rd > (1099511627776 : Int))) = Bool.true)]) := by kernel_rfl
theorem rr_74 (kd ep fr wh tp rd : Int) (bd : List Int)
    (h1 : ((decide (ep < (0 : Int))) = Bool.false))
    (h2 : ((decide (ep > (1048576 : Int))) = Bool.false))
    (h3 : ((decide (fr < (1 : Int))) = Bool.false))
    (h4 : ((decide (fr > (9 : Int))) = Bool.false))
    (h5 : ((decide (rd < (0 : Int))) = Bool.false))
    (h6 : ((decide (rd > (1099511627776 : Int))) = Bool.true)) :
    ∃ ps, runF Try.prog D0 [] 200 Try.f15 [.agg (msgP kd ep fr wh tp rd bd)] [.is false, .is false, .is false, .is false, .is false, .is true] = some ((Go.Abs.AV.v (Go.Abs.A0.one (Go.Abs.Part.bool Bool.true Bool.false))), ps) ∧ AllQ ps := ⟨_, rr_74_r kd ep fr wh tp rd bd, AllP.all ⟨h1, h2, h3, h4, h5, h6⟩⟩

theorem rr_75_r (kd ep fr wh tp rd : Int) (bd : List Int) : runF Try.prog D0 [] 200 Try.f15 [.agg (msgP kd ep fr wh tp rd bd)] [.is false, .is false, .is false, .is false, .is true] =
    some ((Go.Abs.AV.v (Go.Abs.A0.one (Go.Abs.Part.bool Bool.true Bool.false))), [((decide (ep < (0 : Int))) = Bool.false), ((decide (ep > (1048576 : Int))) = Bool.false), ((decide (fr < (1 : Int))) = Bool.false), ((decide (fr > (9 : Int))) = Bool.false), ((decide (rd < (0 : Int))) = Bool.true)]) := by kernel_rfl
theorem rr_75 (kd ep fr wh tp rd : Int) (bd : List Int)
    (h1 : ((decide (ep < (0 : Int))) = Bool.false))
    (h2 : ((decide (ep > (1048576 : Int))) = Bool.false))
    (h3 : ((decide (fr < (1 : Int))) = Bool.false))
    (h4 : ((decide (fr > (9 : Int))) = Bool.false))
    (h5 : ((decide (rd < (0 : Int))) = Bool.true)) :
    ∃ ps, runF Try.prog D0 [] 200 Try.f15 [.agg (msgP kd ep fr wh tp rd bd)] [.is false, .is false, .is false, .is false, .is true] = some ((Go.Abs.AV.v (Go.Abs.A0.one (Go.Abs.Part.bool Bool.true Bool.false))), ps) ∧ AllQ ps := ⟨_, rr_75_r kd ep fr wh tp rd bd, AllP.all ⟨h1, h2, h3, h4, h5⟩⟩

theorem rr_76_r (kd ep fr wh tp rd : Int) (bd : List Int) : runF Try.prog D0 [] 200 Try.f15 [.agg (msgP kd ep fr wh tp rd bd)] [.is false, .is false, .is false, .is true] =
    some ((Go.Abs.AV.v (Go.Abs.A0.one (Go.Abs.Part.bool Bool.true Bool.false))), [((decide (ep < (0 : Int))) = Bool.false), ((decide (ep > (1048576 : Int))) = Bool.false), ((decide (fr < (1 : Int))) = Bool.false), ((decide (fr > (9 : Int))) = Bool.true)]) := by kernel_rfl
theorem rr_76 (kd ep fr wh tp rd : Int) (bd : List Int)
    (h1 : ((decide (ep < (0 : Int))) = Bool.false))
    (h2 : ((decide (ep > (1048576 : Int))) = Bool.false))
    (h3 : ((decide (fr < (1 : Int))) = Bool.false))
    (h4 : ((decide (fr > (9 : Int))) = Bool.true)) :
    ∃ ps, runF Try.prog D0 [] 200 Try.f15 [.agg (msgP kd ep fr wh tp rd bd)] [.is false, .is false, .is false, .is true] = some ((Go.Abs.AV.v (Go.Abs.A0.one (Go.Abs.Part.bool Bool.true Bool.false))), ps) ∧ AllQ ps := ⟨_, rr_76_r kd ep fr wh tp rd bd, AllP.all ⟨h1, h2, h3, h4⟩⟩

theorem rr_77_r (kd ep fr wh tp rd : Int) (bd : List Int) : runF Try.prog D0 [] 200 Try.f15 [.agg (msgP kd ep fr wh tp rd bd)] [.is false, .is false, .is true] =
    some ((Go.Abs.AV.v (Go.Abs.A0.one (Go.Abs.Part.bool Bool.true Bool.false))), [((decide (ep < (0 : Int))) = Bool.false), ((decide (ep > (1048576 : Int))) = Bool.false), ((decide (fr < (1 : Int))) = Bool.true)]) := by kernel_rfl
theorem rr_77 (kd ep fr wh tp rd : Int) (bd : List Int)
    (h1 : ((decide (ep < (0 : Int))) = Bool.false))
    (h2 : ((decide (ep > (1048576 : Int))) = Bool.false))
    (h3 : ((decide (fr < (1 : Int))) = Bool.true)) :
    ∃ ps, runF Try.prog D0 [] 200 Try.f15 [.agg (msgP kd ep fr wh tp rd bd)] [.is false, .is false, .is true] = some ((Go.Abs.AV.v (Go.Abs.A0.one (Go.Abs.Part.bool Bool.true Bool.false))), ps) ∧ AllQ ps := ⟨_, rr_77_r kd ep fr wh tp rd bd, AllP.all ⟨h1, h2, h3⟩⟩

theorem rr_78_r (kd ep fr wh tp rd : Int) (bd : List Int) : runF Try.prog D0 [] 200 Try.f15 [.agg (msgP kd ep fr wh tp rd bd)] [.is false, .is true] =
    some ((Go.Abs.AV.v (Go.Abs.A0.one (Go.Abs.Part.bool Bool.true Bool.false))), [((decide (ep < (0 : Int))) = Bool.false), ((decide (ep > (1048576 : Int))) = Bool.true)]) := by kernel_rfl
theorem rr_78 (kd ep fr wh tp rd : Int) (bd : List Int)
    (h1 : ((decide (ep < (0 : Int))) = Bool.false))
    (h2 : ((decide (ep > (1048576 : Int))) = Bool.true)) :
    ∃ ps, runF Try.prog D0 [] 200 Try.f15 [.agg (msgP kd ep fr wh tp rd bd)] [.is false, .is true] = some ((Go.Abs.AV.v (Go.Abs.A0.one (Go.Abs.Part.bool Bool.true Bool.false))), ps) ∧ AllQ ps := ⟨_, rr_78_r kd ep fr wh tp rd bd, AllP.all ⟨h1, h2⟩⟩

theorem rr_79_r (kd ep fr wh tp rd : Int) (bd : List Int) : runF Try.prog D0 [] 200 Try.f15 [.agg (msgP kd ep fr wh tp rd bd)] [.is true] =
    some ((Go.Abs.AV.v (Go.Abs.A0.one (Go.Abs.Part.bool Bool.true Bool.false))), [((decide (ep < (0 : Int))) = Bool.true)]) := by kernel_rfl
theorem rr_79 (kd ep fr wh tp rd : Int) (bd : List Int)
    (h1 : ((decide (ep < (0 : Int))) = Bool.true)) :
    ∃ ps, runF Try.prog D0 [] 200 Try.f15 [.agg (msgP kd ep fr wh tp rd bd)] [.is true] = some ((Go.Abs.AV.v (Go.Abs.A0.one (Go.Abs.Part.bool Bool.true Bool.false))), ps) ∧ AllQ ps := ⟨_, rr_79_r kd ep fr wh tp rd bd, AllP.all h1⟩

def rightRD : FnD D0
  | [.agg p] => match msgOf p with
    | some m => some (.v (.one (.bool false (decide m.Ck))), [])
    | none => none
  | _ => none

theorem rightR_ok : FnOK Try.prog D0 15 rightRD := by
  refine fnOK_of gam_nil mixed Try.func15 (enters_of Try.func15 (by kernel_rfl) rfl) ?_
  intro xs r ps h hps
  unfold rightRD at h
  split at h
  · split at h
    · rename_i m hm
      simp only [Option.some.injEq, Prod.mk.injEq] at h
      obtain ⟨rfl, rfl⟩ := h
      obtain ⟨kd, ep, fr, wh, tp, rd, bd⟩ := m
      have fin : ∀ {ds r qs b}, runF Try.prog D0 [] 200 Try.f15 [.agg (msgP kd ep fr wh tp rd bd)] ds = some (.v (.one (.bool r b)), qs) → AllQ qs → b = decide (0 ≤ ep ∧ ep ≤ 1048576 ∧ 1 ≤ fr ∧ fr ≤ 9 ∧ Rt kd fr wh tp rd bd.length) →
          ∃ xs' fuel ds r' qs, (∀ w vs, A0sRel D0 (cenv w) [.agg _] vs → A0sRel D0 (cenv w) xs' vs) ∧ runF Try.prog D0 [] fuel Try.f15 xs' ds = some (r', qs) ∧ AllQ qs ∧ ∀ E v, AVRel D0 E r' v → AVRel D0 E (.v (.one (.bool false (decide (Msg.Ck ⟨kd, ep, fr, wh, tp, rd, bd⟩))))) v :=
        fun h1 h2 h3 => ⟨_, 200, _, _, _, fun w vs h => args1 (fun v hv => msgOf_rel hm hv) h, h1, h2, fun E v hv => one_bool h3 hv⟩
      cases cepl : (decide (ep < 0))
      · have pepl := of_decide_eq_false cepl
        cases cepg : (decide (ep > 1048576))
        · have pepg := of_decide_eq_false cepg
          cases cfrl : (decide (fr < 1))
          · have pfrl := of_decide_eq_false cfrl
            cases cfrg : (decide (fr > 9))
            · have pfrg := of_decide_eq_false cfrg
              cases crdl : (decide (rd < 0))
              · have prdl := of_decide_eq_false crdl
                cases crdg : (decide (rd > 1099511627776))
                · have prdg := of_decide_eq_false crdg
                  cases ck1 : (decide (kd ≥ 1))
                  · have pk1 := of_decide_eq_false ck1
                    cases cwn : (wh != 0)
                    · have pwn := bne_f cwn
                      cases ctn : (tp != 0)
                      · have ptn := bne_f ctn
                        cases ck4 : (kd == 4)
                        · have pk4 := ne_of_beq_false ck4
                          cases ck5 : (kd == 5)
                          · have pk5 := ne_of_beq_false ck5
                            cases cr0 : (rd == 0)
                            · have pr0 := ne_of_beq_false cr0
                              cases ck6 : (kd == 6)
                              · have pk6 := ne_of_beq_false ck6
                                cases ck7 : (kd == 7)
                                · have pk7 := ne_of_beq_false ck7
                                  cases ck8 : (kd == 8)
                                  · have pk8 := ne_of_beq_false ck8
                                    obtain ⟨ps, h1, h2⟩ := rr_0 kd ep fr wh tp rd bd cepl cepg cfrl cfrg crdl crdg ck1 cwn ctn ck4 ck5 cr0 ck6 ck7 ck8
                                    exact fin h1 h2 (decide_eq_false (by unfold Rt; omega)).symm
                                  · have pk8 := eq_of_beq ck8
                                    cases cng : (decide (((List.length bd : Nat) : Int) > 0))
                                    · have png := of_decide_eq_false cng
                                      obtain ⟨ps, h1, h2⟩ := rr_1 kd ep fr wh tp rd bd cepl cepg cfrl cfrg crdl crdg ck1 cwn ctn ck4 ck5 cr0 ck6 ck7 ck8 cng
                                      exact fin h1 h2 (decide_eq_false (by unfold Rt; omega)).symm
                                    · have png := of_decide_eq_true cng
                                      cases cn768 : (decide (((List.length bd : Nat) : Int) ≤ 768))
                                      · have pn768 := of_decide_eq_false cn768
                                        obtain ⟨ps, h1, h2⟩ := rr_2 kd ep fr wh tp rd bd cepl cepg cfrl cfrg crdl crdg ck1 cwn ctn ck4 ck5 cr0 ck6 ck7 ck8 cng cn768
                                        exact fin h1 h2 (decide_eq_false (by unfold Rt; omega)).symm
                                      · have pn768 := of_decide_eq_true cn768
                                        cases cnm : ((Int.tmod ((List.length bd : Nat) : Int) 96) == 0)
                                        · have pnm := ne_of_beq_false cnm
                                          obtain ⟨ps, h1, h2⟩ := rr_3 kd ep fr wh tp rd bd cepl cepg cfrl cfrg crdl crdg ck1 cwn ctn ck4 ck5 cr0 ck6 ck7 ck8 cng cn768 cnm
                                          rw [tmod96 bd] at pnm
                                          exact fin h1 h2 (decide_eq_false (by unfold Rt; omega)).symm
                                        · have pnm := eq_of_beq cnm
                                          obtain ⟨ps, h1, h2⟩ := rr_4 kd ep fr wh tp rd bd cepl cepg cfrl cfrg crdl crdg ck1 cwn ctn ck4 ck5 cr0 ck6 ck7 ck8 cng cn768 cnm
                                          rw [tmod96 bd] at pnm
                                          exact fin h1 h2 (decide_eq_true (by unfold Rt; omega)).symm
                                · have pk7 := eq_of_beq ck7
                                  cases cn0 : (((List.length bd : Nat) : Int) == 0)
                                  · have pn0 := ne_of_beq_false cn0
                                    cases ck8 : (kd == 8)
                                    · have pk8 := ne_of_beq_false ck8
                                      obtain ⟨ps, h1, h2⟩ := rr_5 kd ep fr wh tp rd bd cepl cepg cfrl cfrg crdl crdg ck1 cwn ctn ck4 ck5 cr0 ck6 ck7 cn0 ck8
                                      exact fin h1 h2 (decide_eq_false (by unfold Rt; omega)).symm
                                    · have pk8 := eq_of_beq ck8
                                      cases cng : (decide (((List.length bd : Nat) : Int) > 0))
                                      · have png := of_decide_eq_false cng
                                        obtain ⟨ps, h1, h2⟩ := rr_6 kd ep fr wh tp rd bd cepl cepg cfrl cfrg crdl crdg ck1 cwn ctn ck4 ck5 cr0 ck6 ck7 cn0 ck8 cng
                                        exact fin h1 h2 (decide_eq_false (by unfold Rt; omega)).symm
                                      · have png := of_decide_eq_true cng
                                        cases cn768 : (decide (((List.length bd : Nat) : Int) ≤ 768))
                                        · have pn768 := of_decide_eq_false cn768
                                          obtain ⟨ps, h1, h2⟩ := rr_7 kd ep fr wh tp rd bd cepl cepg cfrl cfrg crdl crdg ck1 cwn ctn ck4 ck5 cr0 ck6 ck7 cn0 ck8 cng cn768
                                          exact fin h1 h2 (decide_eq_false (by unfold Rt; omega)).symm
                                        · have pn768 := of_decide_eq_true cn768
                                          cases cnm : ((Int.tmod ((List.length bd : Nat) : Int) 96) == 0)
                                          · have pnm := ne_of_beq_false cnm
                                            obtain ⟨ps, h1, h2⟩ := rr_8 kd ep fr wh tp rd bd cepl cepg cfrl cfrg crdl crdg ck1 cwn ctn ck4 ck5 cr0 ck6 ck7 cn0 ck8 cng cn768 cnm
                                            rw [tmod96 bd] at pnm
                                            exact fin h1 h2 (decide_eq_false (by unfold Rt; omega)).symm
                                          · have pnm := eq_of_beq cnm
                                            obtain ⟨ps, h1, h2⟩ := rr_9 kd ep fr wh tp rd bd cepl cepg cfrl cfrg crdl crdg ck1 cwn ctn ck4 ck5 cr0 ck6 ck7 cn0 ck8 cng cn768 cnm
                                            rw [tmod96 bd] at pnm
                                            exact fin h1 h2 (decide_eq_true (by unfold Rt; omega)).symm
                                  · have pn0 := eq_of_beq cn0
                                    obtain ⟨ps, h1, h2⟩ := rr_10 kd ep fr wh tp rd bd cepl cepg cfrl cfrg crdl crdg ck1 cwn ctn ck4 ck5 cr0 ck6 ck7 cn0
                                    exact fin h1 h2 (decide_eq_true (by unfold Rt; omega)).symm
                              · have pk6 := eq_of_beq ck6
                                cases cn96 : (((List.length bd : Nat) : Int) == 96)
                                · have pn96 := ne_of_beq_false cn96
                                  cases ck7 : (kd == 7)
                                  · have pk7 := ne_of_beq_false ck7
                                    cases ck8 : (kd == 8)
                                    · have pk8 := ne_of_beq_false ck8
                                      obtain ⟨ps, h1, h2⟩ := rr_11 kd ep fr wh tp rd bd cepl cepg cfrl cfrg crdl crdg ck1 cwn ctn ck4 ck5 cr0 ck6 cn96 ck7 ck8
                                      exact fin h1 h2 (decide_eq_false (by unfold Rt; omega)).symm
                                    · have pk8 := eq_of_beq ck8
                                      cases cng : (decide (((List.length bd : Nat) : Int) > 0))
                                      · have png := of_decide_eq_false cng
                                        obtain ⟨ps, h1, h2⟩ := rr_12 kd ep fr wh tp rd bd cepl cepg cfrl cfrg crdl crdg ck1 cwn ctn ck4 ck5 cr0 ck6 cn96 ck7 ck8 cng
                                        exact fin h1 h2 (decide_eq_false (by unfold Rt; omega)).symm
                                      · have png := of_decide_eq_true cng
                                        cases cn768 : (decide (((List.length bd : Nat) : Int) ≤ 768))
                                        · have pn768 := of_decide_eq_false cn768
                                          obtain ⟨ps, h1, h2⟩ := rr_13 kd ep fr wh tp rd bd cepl cepg cfrl cfrg crdl crdg ck1 cwn ctn ck4 ck5 cr0 ck6 cn96 ck7 ck8 cng cn768
                                          exact fin h1 h2 (decide_eq_false (by unfold Rt; omega)).symm
                                        · have pn768 := of_decide_eq_true cn768
                                          cases cnm : ((Int.tmod ((List.length bd : Nat) : Int) 96) == 0)
                                          · have pnm := ne_of_beq_false cnm
                                            obtain ⟨ps, h1, h2⟩ := rr_14 kd ep fr wh tp rd bd cepl cepg cfrl cfrg crdl crdg ck1 cwn ctn ck4 ck5 cr0 ck6 cn96 ck7 ck8 cng cn768 cnm
                                            rw [tmod96 bd] at pnm
                                            exact fin h1 h2 (decide_eq_false (by unfold Rt; omega)).symm
                                          · have pnm := eq_of_beq cnm
                                            obtain ⟨ps, h1, h2⟩ := rr_15 kd ep fr wh tp rd bd cepl cepg cfrl cfrg crdl crdg ck1 cwn ctn ck4 ck5 cr0 ck6 cn96 ck7 ck8 cng cn768 cnm
                                            rw [tmod96 bd] at pnm
                                            exact fin h1 h2 (decide_eq_true (by unfold Rt; omega)).symm
                                  · have pk7 := eq_of_beq ck7
                                    cases cn0 : (((List.length bd : Nat) : Int) == 0)
                                    · have pn0 := ne_of_beq_false cn0
                                      cases ck8 : (kd == 8)
                                      · have pk8 := ne_of_beq_false ck8
                                        obtain ⟨ps, h1, h2⟩ := rr_16 kd ep fr wh tp rd bd cepl cepg cfrl cfrg crdl crdg ck1 cwn ctn ck4 ck5 cr0 ck6 cn96 ck7 cn0 ck8
                                        exact fin h1 h2 (decide_eq_false (by unfold Rt; omega)).symm
                                      · have pk8 := eq_of_beq ck8
                                        cases cng : (decide (((List.length bd : Nat) : Int) > 0))
                                        · have png := of_decide_eq_false cng
                                          obtain ⟨ps, h1, h2⟩ := rr_17 kd ep fr wh tp rd bd cepl cepg cfrl cfrg crdl crdg ck1 cwn ctn ck4 ck5 cr0 ck6 cn96 ck7 cn0 ck8 cng
                                          exact fin h1 h2 (decide_eq_false (by unfold Rt; omega)).symm
                                        · have png := of_decide_eq_true cng
                                          cases cn768 : (decide (((List.length bd : Nat) : Int) ≤ 768))
                                          · have pn768 := of_decide_eq_false cn768
                                            obtain ⟨ps, h1, h2⟩ := rr_18 kd ep fr wh tp rd bd cepl cepg cfrl cfrg crdl crdg ck1 cwn ctn ck4 ck5 cr0 ck6 cn96 ck7 cn0 ck8 cng cn768
                                            exact fin h1 h2 (decide_eq_false (by unfold Rt; omega)).symm
                                          · have pn768 := of_decide_eq_true cn768
                                            cases cnm : ((Int.tmod ((List.length bd : Nat) : Int) 96) == 0)
                                            · have pnm := ne_of_beq_false cnm
                                              obtain ⟨ps, h1, h2⟩ := rr_19 kd ep fr wh tp rd bd cepl cepg cfrl cfrg crdl crdg ck1 cwn ctn ck4 ck5 cr0 ck6 cn96 ck7 cn0 ck8 cng cn768 cnm
                                              rw [tmod96 bd] at pnm
                                              exact fin h1 h2 (decide_eq_false (by unfold Rt; omega)).symm
                                            · have pnm := eq_of_beq cnm
                                              obtain ⟨ps, h1, h2⟩ := rr_20 kd ep fr wh tp rd bd cepl cepg cfrl cfrg crdl crdg ck1 cwn ctn ck4 ck5 cr0 ck6 cn96 ck7 cn0 ck8 cng cn768 cnm
                                              rw [tmod96 bd] at pnm
                                              exact fin h1 h2 (decide_eq_true (by unfold Rt; omega)).symm
                                    · have pn0 := eq_of_beq cn0
                                      obtain ⟨ps, h1, h2⟩ := rr_21 kd ep fr wh tp rd bd cepl cepg cfrl cfrg crdl crdg ck1 cwn ctn ck4 ck5 cr0 ck6 cn96 ck7 cn0
                                      exact fin h1 h2 (decide_eq_true (by unfold Rt; omega)).symm
                                · have pn96 := eq_of_beq cn96
                                  obtain ⟨ps, h1, h2⟩ := rr_22 kd ep fr wh tp rd bd cepl cepg cfrl cfrg crdl crdg ck1 cwn ctn ck4 ck5 cr0 ck6 cn96
                                  exact fin h1 h2 (decide_eq_true (by unfold Rt; omega)).symm
                            · have pr0 := eq_of_beq cr0
                              obtain ⟨ps, h1, h2⟩ := rr_23 kd ep fr wh tp rd bd cepl cepg cfrl cfrg crdl crdg ck1 cwn ctn ck4 ck5 cr0
                              exact fin h1 h2 (decide_eq_false (by unfold Rt; omega)).symm
                          · have pk5 := eq_of_beq ck5
                            cases cr0 : (rd == 0)
                            · have pr0 := ne_of_beq_false cr0
                              obtain ⟨ps, h1, h2⟩ := rr_24 kd ep fr wh tp rd bd cepl cepg cfrl cfrg crdl crdg ck1 cwn ctn ck4 ck5 cr0
                              exact fin h1 h2 (decide_eq_false (by unfold Rt; omega)).symm
                            · have pr0 := eq_of_beq cr0
                              cases cn32 : (((List.length bd : Nat) : Int) == 32)
                              · have pn32 := ne_of_beq_false cn32
                                obtain ⟨ps, h1, h2⟩ := rr_25 kd ep fr wh tp rd bd cepl cepg cfrl cfrg crdl crdg ck1 cwn ctn ck4 ck5 cr0 cn32
                                exact fin h1 h2 (decide_eq_false (by unfold Rt; omega)).symm
                              · have pn32 := eq_of_beq cn32
                                obtain ⟨ps, h1, h2⟩ := rr_26 kd ep fr wh tp rd bd cepl cepg cfrl cfrg crdl crdg ck1 cwn ctn ck4 ck5 cr0 cn32
                                exact fin h1 h2 (decide_eq_true (by unfold Rt; omega)).symm
                        · have pk4 := eq_of_beq ck4
                          cases cr0 : (rd == 0)
                          · have pr0 := ne_of_beq_false cr0
                            obtain ⟨ps, h1, h2⟩ := rr_27 kd ep fr wh tp rd bd cepl cepg cfrl cfrg crdl crdg ck1 cwn ctn ck4 cr0
                            exact fin h1 h2 (decide_eq_false (by unfold Rt; omega)).symm
                          · have pr0 := eq_of_beq cr0
                            cases cn32 : (((List.length bd : Nat) : Int) == 32)
                            · have pn32 := ne_of_beq_false cn32
                              obtain ⟨ps, h1, h2⟩ := rr_28 kd ep fr wh tp rd bd cepl cepg cfrl cfrg crdl crdg ck1 cwn ctn ck4 cr0 cn32
                              exact fin h1 h2 (decide_eq_false (by unfold Rt; omega)).symm
                            · have pn32 := eq_of_beq cn32
                              obtain ⟨ps, h1, h2⟩ := rr_29 kd ep fr wh tp rd bd cepl cepg cfrl cfrg crdl crdg ck1 cwn ctn ck4 cr0 cn32
                              exact fin h1 h2 (decide_eq_true (by unfold Rt; omega)).symm
                      · have ptn := bne_t ctn
                        obtain ⟨ps, h1, h2⟩ := rr_30 kd ep fr wh tp rd bd cepl cepg cfrl cfrg crdl crdg ck1 cwn ctn
                        exact fin h1 h2 (decide_eq_false (by unfold Rt; omega)).symm
                    · have pwn := bne_t cwn
                      obtain ⟨ps, h1, h2⟩ := rr_31 kd ep fr wh tp rd bd cepl cepg cfrl cfrg crdl crdg ck1 cwn
                      exact fin h1 h2 (decide_eq_false (by unfold Rt; omega)).symm
                  · have pk1 := of_decide_eq_true ck1
                    cases ck3 : (decide (kd ≤ 3))
                    · have pk3 := of_decide_eq_false ck3
                      cases cwn : (wh != 0)
                      · have pwn := bne_f cwn
                        cases ctn : (tp != 0)
                        · have ptn := bne_f ctn
                          cases ck4 : (kd == 4)
                          · have pk4 := ne_of_beq_false ck4
                            cases ck5 : (kd == 5)
                            · have pk5 := ne_of_beq_false ck5
                              cases cr0 : (rd == 0)
                              · have pr0 := ne_of_beq_false cr0
                                cases ck6 : (kd == 6)
                                · have pk6 := ne_of_beq_false ck6
                                  cases ck7 : (kd == 7)
                                  · have pk7 := ne_of_beq_false ck7
                                    cases ck8 : (kd == 8)
                                    · have pk8 := ne_of_beq_false ck8
                                      obtain ⟨ps, h1, h2⟩ := rr_32 kd ep fr wh tp rd bd cepl cepg cfrl cfrg crdl crdg ck1 ck3 cwn ctn ck4 ck5 cr0 ck6 ck7 ck8
                                      exact fin h1 h2 (decide_eq_false (by unfold Rt; omega)).symm
                                    · have pk8 := eq_of_beq ck8
                                      cases cng : (decide (((List.length bd : Nat) : Int) > 0))
                                      · have png := of_decide_eq_false cng
                                        obtain ⟨ps, h1, h2⟩ := rr_33 kd ep fr wh tp rd bd cepl cepg cfrl cfrg crdl crdg ck1 ck3 cwn ctn ck4 ck5 cr0 ck6 ck7 ck8 cng
                                        exact fin h1 h2 (decide_eq_false (by unfold Rt; omega)).symm
                                      · have png := of_decide_eq_true cng
                                        cases cn768 : (decide (((List.length bd : Nat) : Int) ≤ 768))
                                        · have pn768 := of_decide_eq_false cn768
                                          obtain ⟨ps, h1, h2⟩ := rr_34 kd ep fr wh tp rd bd cepl cepg cfrl cfrg crdl crdg ck1 ck3 cwn ctn ck4 ck5 cr0 ck6 ck7 ck8 cng cn768
                                          exact fin h1 h2 (decide_eq_false (by unfold Rt; omega)).symm
                                        · have pn768 := of_decide_eq_true cn768
                                          cases cnm : ((Int.tmod ((List.length bd : Nat) : Int) 96) == 0)
                                          · have pnm := ne_of_beq_false cnm
                                            obtain ⟨ps, h1, h2⟩ := rr_35 kd ep fr wh tp rd bd cepl cepg cfrl cfrg crdl crdg ck1 ck3 cwn ctn ck4 ck5 cr0 ck6 ck7 ck8 cng cn768 cnm
                                            rw [tmod96 bd] at pnm
                                            exact fin h1 h2 (decide_eq_false (by unfold Rt; omega)).symm
                                          · have pnm := eq_of_beq cnm
                                            obtain ⟨ps, h1, h2⟩ := rr_36 kd ep fr wh tp rd bd cepl cepg cfrl cfrg crdl crdg ck1 ck3 cwn ctn ck4 ck5 cr0 ck6 ck7 ck8 cng cn768 cnm
                                            rw [tmod96 bd] at pnm
                                            exact fin h1 h2 (decide_eq_true (by unfold Rt; omega)).symm
                                  · have pk7 := eq_of_beq ck7
                                    cases cn0 : (((List.length bd : Nat) : Int) == 0)
                                    · have pn0 := ne_of_beq_false cn0
                                      cases ck8 : (kd == 8)
                                      · have pk8 := ne_of_beq_false ck8
                                        obtain ⟨ps, h1, h2⟩ := rr_37 kd ep fr wh tp rd bd cepl cepg cfrl cfrg crdl crdg ck1 ck3 cwn ctn ck4 ck5 cr0 ck6 ck7 cn0 ck8
                                        exact fin h1 h2 (decide_eq_false (by unfold Rt; omega)).symm
                                      · have pk8 := eq_of_beq ck8
                                        cases cng : (decide (((List.length bd : Nat) : Int) > 0))
                                        · have png := of_decide_eq_false cng
                                          obtain ⟨ps, h1, h2⟩ := rr_38 kd ep fr wh tp rd bd cepl cepg cfrl cfrg crdl crdg ck1 ck3 cwn ctn ck4 ck5 cr0 ck6 ck7 cn0 ck8 cng
                                          exact fin h1 h2 (decide_eq_false (by unfold Rt; omega)).symm
                                        · have png := of_decide_eq_true cng
                                          cases cn768 : (decide (((List.length bd : Nat) : Int) ≤ 768))
                                          · have pn768 := of_decide_eq_false cn768
                                            obtain ⟨ps, h1, h2⟩ := rr_39 kd ep fr wh tp rd bd cepl cepg cfrl cfrg crdl crdg ck1 ck3 cwn ctn ck4 ck5 cr0 ck6 ck7 cn0 ck8 cng cn768
                                            exact fin h1 h2 (decide_eq_false (by unfold Rt; omega)).symm
                                          · have pn768 := of_decide_eq_true cn768
                                            cases cnm : ((Int.tmod ((List.length bd : Nat) : Int) 96) == 0)
                                            · have pnm := ne_of_beq_false cnm
                                              obtain ⟨ps, h1, h2⟩ := rr_40 kd ep fr wh tp rd bd cepl cepg cfrl cfrg crdl crdg ck1 ck3 cwn ctn ck4 ck5 cr0 ck6 ck7 cn0 ck8 cng cn768 cnm
                                              rw [tmod96 bd] at pnm
                                              exact fin h1 h2 (decide_eq_false (by unfold Rt; omega)).symm
                                            · have pnm := eq_of_beq cnm
                                              obtain ⟨ps, h1, h2⟩ := rr_41 kd ep fr wh tp rd bd cepl cepg cfrl cfrg crdl crdg ck1 ck3 cwn ctn ck4 ck5 cr0 ck6 ck7 cn0 ck8 cng cn768 cnm
                                              rw [tmod96 bd] at pnm
                                              exact fin h1 h2 (decide_eq_true (by unfold Rt; omega)).symm
                                    · have pn0 := eq_of_beq cn0
                                      obtain ⟨ps, h1, h2⟩ := rr_42 kd ep fr wh tp rd bd cepl cepg cfrl cfrg crdl crdg ck1 ck3 cwn ctn ck4 ck5 cr0 ck6 ck7 cn0
                                      exact fin h1 h2 (decide_eq_true (by unfold Rt; omega)).symm
                                · have pk6 := eq_of_beq ck6
                                  cases cn96 : (((List.length bd : Nat) : Int) == 96)
                                  · have pn96 := ne_of_beq_false cn96
                                    cases ck7 : (kd == 7)
                                    · have pk7 := ne_of_beq_false ck7
                                      cases ck8 : (kd == 8)
                                      · have pk8 := ne_of_beq_false ck8
                                        obtain ⟨ps, h1, h2⟩ := rr_43 kd ep fr wh tp rd bd cepl cepg cfrl cfrg crdl crdg ck1 ck3 cwn ctn ck4 ck5 cr0 ck6 cn96 ck7 ck8
                                        exact fin h1 h2 (decide_eq_false (by unfold Rt; omega)).symm
                                      · have pk8 := eq_of_beq ck8
                                        cases cng : (decide (((List.length bd : Nat) : Int) > 0))
                                        · have png := of_decide_eq_false cng
                                          obtain ⟨ps, h1, h2⟩ := rr_44 kd ep fr wh tp rd bd cepl cepg cfrl cfrg crdl crdg ck1 ck3 cwn ctn ck4 ck5 cr0 ck6 cn96 ck7 ck8 cng
                                          exact fin h1 h2 (decide_eq_false (by unfold Rt; omega)).symm
                                        · have png := of_decide_eq_true cng
                                          cases cn768 : (decide (((List.length bd : Nat) : Int) ≤ 768))
                                          · have pn768 := of_decide_eq_false cn768
                                            obtain ⟨ps, h1, h2⟩ := rr_45 kd ep fr wh tp rd bd cepl cepg cfrl cfrg crdl crdg ck1 ck3 cwn ctn ck4 ck5 cr0 ck6 cn96 ck7 ck8 cng cn768
                                            exact fin h1 h2 (decide_eq_false (by unfold Rt; omega)).symm
                                          · have pn768 := of_decide_eq_true cn768
                                            cases cnm : ((Int.tmod ((List.length bd : Nat) : Int) 96) == 0)
                                            · have pnm := ne_of_beq_false cnm
                                              obtain ⟨ps, h1, h2⟩ := rr_46 kd ep fr wh tp rd bd cepl cepg cfrl cfrg crdl crdg ck1 ck3 cwn ctn ck4 ck5 cr0 ck6 cn96 ck7 ck8 cng cn768 cnm
                                              rw [tmod96 bd] at pnm
                                              exact fin h1 h2 (decide_eq_false (by unfold Rt; omega)).symm
                                            · have pnm := eq_of_beq cnm
                                              obtain ⟨ps, h1, h2⟩ := rr_47 kd ep fr wh tp rd bd cepl cepg cfrl cfrg crdl crdg ck1 ck3 cwn ctn ck4 ck5 cr0 ck6 cn96 ck7 ck8 cng cn768 cnm
                                              rw [tmod96 bd] at pnm
                                              exact fin h1 h2 (decide_eq_true (by unfold Rt; omega)).symm
                                    · have pk7 := eq_of_beq ck7
                                      cases cn0 : (((List.length bd : Nat) : Int) == 0)
                                      · have pn0 := ne_of_beq_false cn0
                                        cases ck8 : (kd == 8)
                                        · have pk8 := ne_of_beq_false ck8
                                          obtain ⟨ps, h1, h2⟩ := rr_48 kd ep fr wh tp rd bd cepl cepg cfrl cfrg crdl crdg ck1 ck3 cwn ctn ck4 ck5 cr0 ck6 cn96 ck7 cn0 ck8
                                          exact fin h1 h2 (decide_eq_false (by unfold Rt; omega)).symm
                                        · have pk8 := eq_of_beq ck8
                                          cases cng : (decide (((List.length bd : Nat) : Int) > 0))
                                          · have png := of_decide_eq_false cng
                                            obtain ⟨ps, h1, h2⟩ := rr_49 kd ep fr wh tp rd bd cepl cepg cfrl cfrg crdl crdg ck1 ck3 cwn ctn ck4 ck5 cr0 ck6 cn96 ck7 cn0 ck8 cng
                                            exact fin h1 h2 (decide_eq_false (by unfold Rt; omega)).symm
                                          · have png := of_decide_eq_true cng
                                            cases cn768 : (decide (((List.length bd : Nat) : Int) ≤ 768))
                                            · have pn768 := of_decide_eq_false cn768
                                              obtain ⟨ps, h1, h2⟩ := rr_50 kd ep fr wh tp rd bd cepl cepg cfrl cfrg crdl crdg ck1 ck3 cwn ctn ck4 ck5 cr0 ck6 cn96 ck7 cn0 ck8 cng cn768
                                              exact fin h1 h2 (decide_eq_false (by unfold Rt; omega)).symm
                                            · have pn768 := of_decide_eq_true cn768
                                              cases cnm : ((Int.tmod ((List.length bd : Nat) : Int) 96) == 0)
                                              · have pnm := ne_of_beq_false cnm
                                                obtain ⟨ps, h1, h2⟩ := rr_51 kd ep fr wh tp rd bd cepl cepg cfrl cfrg crdl crdg ck1 ck3 cwn ctn ck4 ck5 cr0 ck6 cn96 ck7 cn0 ck8 cng cn768 cnm
                                                rw [tmod96 bd] at pnm
                                                exact fin h1 h2 (decide_eq_false (by unfold Rt; omega)).symm
                                              · have pnm := eq_of_beq cnm
                                                obtain ⟨ps, h1, h2⟩ := rr_52 kd ep fr wh tp rd bd cepl cepg cfrl cfrg crdl crdg ck1 ck3 cwn ctn ck4 ck5 cr0 ck6 cn96 ck7 cn0 ck8 cng cn768 cnm
                                                rw [tmod96 bd] at pnm
                                                exact fin h1 h2 (decide_eq_true (by unfold Rt; omega)).symm
                                      · have pn0 := eq_of_beq cn0
                                        obtain ⟨ps, h1, h2⟩ := rr_53 kd ep fr wh tp rd bd cepl cepg cfrl cfrg crdl crdg ck1 ck3 cwn ctn ck4 ck5 cr0 ck6 cn96 ck7 cn0
                                        exact fin h1 h2 (decide_eq_true (by unfold Rt; omega)).symm
                                  · have pn96 := eq_of_beq cn96
                                    obtain ⟨ps, h1, h2⟩ := rr_54 kd ep fr wh tp rd bd cepl cepg cfrl cfrg crdl crdg ck1 ck3 cwn ctn ck4 ck5 cr0 ck6 cn96
                                    exact fin h1 h2 (decide_eq_true (by unfold Rt; omega)).symm
                              · have pr0 := eq_of_beq cr0
                                obtain ⟨ps, h1, h2⟩ := rr_55 kd ep fr wh tp rd bd cepl cepg cfrl cfrg crdl crdg ck1 ck3 cwn ctn ck4 ck5 cr0
                                exact fin h1 h2 (decide_eq_false (by unfold Rt; omega)).symm
                            · have pk5 := eq_of_beq ck5
                              cases cr0 : (rd == 0)
                              · have pr0 := ne_of_beq_false cr0
                                obtain ⟨ps, h1, h2⟩ := rr_56 kd ep fr wh tp rd bd cepl cepg cfrl cfrg crdl crdg ck1 ck3 cwn ctn ck4 ck5 cr0
                                exact fin h1 h2 (decide_eq_false (by unfold Rt; omega)).symm
                              · have pr0 := eq_of_beq cr0
                                cases cn32 : (((List.length bd : Nat) : Int) == 32)
                                · have pn32 := ne_of_beq_false cn32
                                  obtain ⟨ps, h1, h2⟩ := rr_57 kd ep fr wh tp rd bd cepl cepg cfrl cfrg crdl crdg ck1 ck3 cwn ctn ck4 ck5 cr0 cn32
                                  exact fin h1 h2 (decide_eq_false (by unfold Rt; omega)).symm
                                · have pn32 := eq_of_beq cn32
                                  obtain ⟨ps, h1, h2⟩ := rr_58 kd ep fr wh tp rd bd cepl cepg cfrl cfrg crdl crdg ck1 ck3 cwn ctn ck4 ck5 cr0 cn32
                                  exact fin h1 h2 (decide_eq_true (by unfold Rt; omega)).symm
                          · have pk4 := eq_of_beq ck4
                            cases cr0 : (rd == 0)
                            · have pr0 := ne_of_beq_false cr0
                              obtain ⟨ps, h1, h2⟩ := rr_59 kd ep fr wh tp rd bd cepl cepg cfrl cfrg crdl crdg ck1 ck3 cwn ctn ck4 cr0
                              exact fin h1 h2 (decide_eq_false (by unfold Rt; omega)).symm
                            · have pr0 := eq_of_beq cr0
                              cases cn32 : (((List.length bd : Nat) : Int) == 32)
                              · have pn32 := ne_of_beq_false cn32
                                obtain ⟨ps, h1, h2⟩ := rr_60 kd ep fr wh tp rd bd cepl cepg cfrl cfrg crdl crdg ck1 ck3 cwn ctn ck4 cr0 cn32
                                exact fin h1 h2 (decide_eq_false (by unfold Rt; omega)).symm
                              · have pn32 := eq_of_beq cn32
                                obtain ⟨ps, h1, h2⟩ := rr_61 kd ep fr wh tp rd bd cepl cepg cfrl cfrg crdl crdg ck1 ck3 cwn ctn ck4 cr0 cn32
                                exact fin h1 h2 (decide_eq_true (by unfold Rt; omega)).symm
                        · have ptn := bne_t ctn
                          obtain ⟨ps, h1, h2⟩ := rr_62 kd ep fr wh tp rd bd cepl cepg cfrl cfrg crdl crdg ck1 ck3 cwn ctn
                          exact fin h1 h2 (decide_eq_false (by unfold Rt; omega)).symm
                      · have pwn := bne_t cwn
                        obtain ⟨ps, h1, h2⟩ := rr_63 kd ep fr wh tp rd bd cepl cepg cfrl cfrg crdl crdg ck1 ck3 cwn
                        exact fin h1 h2 (decide_eq_false (by unfold Rt; omega)).symm
                    · have pk3 := of_decide_eq_true ck3
                      cases cw1 : (decide (wh ≥ 1))
                      · have pw1 := of_decide_eq_false cw1
                        obtain ⟨ps, h1, h2⟩ := rr_64 kd ep fr wh tp rd bd cepl cepg cfrl cfrg crdl crdg ck1 ck3 cw1
                        exact fin h1 h2 (decide_eq_false (by unfold Rt; omega)).symm
                      · have pw1 := of_decide_eq_true cw1
                        cases cw9 : (decide (wh ≤ 9))
                        · have pw9 := of_decide_eq_false cw9
                          obtain ⟨ps, h1, h2⟩ := rr_65 kd ep fr wh tp rd bd cepl cepg cfrl cfrg crdl crdg ck1 ck3 cw1 cw9
                          exact fin h1 h2 (decide_eq_false (by unfold Rt; omega)).symm
                        · have pw9 := of_decide_eq_true cw9
                          cases ct1 : (decide (tp ≥ 1))
                          · have pt1 := of_decide_eq_false ct1
                            obtain ⟨ps, h1, h2⟩ := rr_66 kd ep fr wh tp rd bd cepl cepg cfrl cfrg crdl crdg ck1 ck3 cw1 cw9 ct1
                            exact fin h1 h2 (decide_eq_false (by unfold Rt; omega)).symm
                          · have pt1 := of_decide_eq_true ct1
                            cases ct3 : (decide (tp ≤ 3))
                            · have pt3 := of_decide_eq_false ct3
                              obtain ⟨ps, h1, h2⟩ := rr_67 kd ep fr wh tp rd bd cepl cepg cfrl cfrg crdl crdg ck1 ck3 cw1 cw9 ct1 ct3
                              exact fin h1 h2 (decide_eq_false (by unfold Rt; omega)).symm
                            · have pt3 := of_decide_eq_true ct3
                              cases cr0 : (rd == 0)
                              · have pr0 := ne_of_beq_false cr0
                                obtain ⟨ps, h1, h2⟩ := rr_68 kd ep fr wh tp rd bd cepl cepg cfrl cfrg crdl crdg ck1 ck3 cw1 cw9 ct1 ct3 cr0
                                exact fin h1 h2 (decide_eq_false (by unfold Rt; omega)).symm
                              · have pr0 := eq_of_beq cr0
                                cases cn1 : (decide (((List.length bd : Nat) : Int) ≥ 1))
                                · have pn1 := of_decide_eq_false cn1
                                  obtain ⟨ps, h1, h2⟩ := rr_69 kd ep fr wh tp rd bd cepl cepg cfrl cfrg crdl crdg ck1 ck3 cw1 cw9 ct1 ct3 cr0 cn1
                                  exact fin h1 h2 (decide_eq_false (by unfold Rt; omega)).symm
                                · have pn1 := of_decide_eq_true cn1
                                  cases cn4 : (decide (((List.length bd : Nat) : Int) ≤ 4096))
                                  · have pn4 := of_decide_eq_false cn4
                                    obtain ⟨ps, h1, h2⟩ := rr_70 kd ep fr wh tp rd bd cepl cepg cfrl cfrg crdl crdg ck1 ck3 cw1 cw9 ct1 ct3 cr0 cn1 cn4
                                    exact fin h1 h2 (decide_eq_false (by unfold Rt; omega)).symm
                                  · have pn4 := of_decide_eq_true cn4
                                    cases ckg : (decide (kd > 1))
                                    · have pkg := of_decide_eq_false ckg
                                      cases cwf : (wh == fr)
                                      · have pwf := ne_of_beq_false cwf
                                        obtain ⟨ps, h1, h2⟩ := rr_71 kd ep fr wh tp rd bd cepl cepg cfrl cfrg crdl crdg ck1 ck3 cw1 cw9 ct1 ct3 cr0 cn1 cn4 ckg cwf
                                        exact fin h1 h2 (decide_eq_false (by unfold Rt; omega)).symm
                                      · have pwf := eq_of_beq cwf
                                        obtain ⟨ps, h1, h2⟩ := rr_72 kd ep fr wh tp rd bd cepl cepg cfrl cfrg crdl crdg ck1 ck3 cw1 cw9 ct1 ct3 cr0 cn1 cn4 ckg cwf
                                        exact fin h1 h2 (decide_eq_true (by unfold Rt; omega)).symm
                                    · have pkg := of_decide_eq_true ckg
                                      obtain ⟨ps, h1, h2⟩ := rr_73 kd ep fr wh tp rd bd cepl cepg cfrl cfrg crdl crdg ck1 ck3 cw1 cw9 ct1 ct3 cr0 cn1 cn4 ckg
                                      exact fin h1 h2 (decide_eq_true (by unfold Rt; omega)).symm
                · have prdg := of_decide_eq_true crdg
                  obtain ⟨ps, h1, h2⟩ := rr_74 kd ep fr wh tp rd bd cepl cepg cfrl cfrg crdl crdg
                  exact fin h1 h2 (decide_eq_false (by unfold Rt; omega)).symm
              · have prdl := of_decide_eq_true crdl
                obtain ⟨ps, h1, h2⟩ := rr_75 kd ep fr wh tp rd bd cepl cepg cfrl cfrg crdl
                exact fin h1 h2 (decide_eq_false (by unfold Rt; omega)).symm
            · have pfrg := of_decide_eq_true cfrg
              obtain ⟨ps, h1, h2⟩ := rr_76 kd ep fr wh tp rd bd cepl cepg cfrl cfrg
              exact fin h1 h2 (decide_eq_false (by unfold Rt; omega)).symm
          · have pfrl := of_decide_eq_true cfrl
            obtain ⟨ps, h1, h2⟩ := rr_77 kd ep fr wh tp rd bd cepl cepg cfrl
            exact fin h1 h2 (decide_eq_false (by unfold Rt; omega)).symm
        · have pepg := of_decide_eq_true cepg
          obtain ⟨ps, h1, h2⟩ := rr_78 kd ep fr wh tp rd bd cepl cepg
          exact fin h1 h2 (decide_eq_false (by unfold Rt; omega)).symm
      · have pepl := of_decide_eq_true cepl
        obtain ⟨ps, h1, h2⟩ := rr_79 kd ep fr wh tp rd bd cepl
        exact fin h1 h2 (decide_eq_false (by unfold Rt; omega)).symm
    · cases h
  · cases h

end Go.Num

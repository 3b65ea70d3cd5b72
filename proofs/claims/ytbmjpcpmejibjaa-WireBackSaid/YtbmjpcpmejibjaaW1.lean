/- Messages: which are right. -/
import Derived.Test.YtbmjpcpmejibjaaLib
import Derived.Test.YtbmjpcpmejibjaaByte
import Derived.Test.YtbmjpcpmejibjaaCopy
import Derived.Test.YtbmjpcpmejibjaaSame
namespace Go.Num
open Go.Abs Go.Proofs Go.Shelf

/-- No words of its own. -/
def D0 : Dom where
  τ := Empty
  size := fun t => t.elim
  rel := fun t => t.elim
  eqv := fun t => t.elim
  eqs := fun t => t.elim
  len := fun t => t.elim
  one := fun t => t.elim

def withinD : FnD D0
  | [.one (.int .i64 _ a), .one (.int .i64 _ b), .one (.int .i64 _ c)] => some (.v (.one (.bool false (decide (b ≤ a ∧ a ≤ c)))), [])
  | _ => none

theorem within_a_r (a b c : Int) : runF Try.prog D0 [] 100 Try.f21 [.one (.int .i64 false a), .one (.int .i64 false b), .one (.int .i64 false c)] [.is false] =
    some ((Go.Abs.AV.v (Go.Abs.A0.one (Go.Abs.Part.bool Bool.true Bool.false))), [((decide (a ≥ b)) = Bool.false)]) := by kernel_rfl
theorem within_a (a b c : Int)
    (h1 : ((decide (a ≥ b)) = Bool.false)) :
    ∃ ps, runF Try.prog D0 [] 100 Try.f21 [.one (.int .i64 false a), .one (.int .i64 false b), .one (.int .i64 false c)] [.is false] = some ((Go.Abs.AV.v (Go.Abs.A0.one (Go.Abs.Part.bool Bool.true Bool.false))), ps) ∧ AllQ ps := ⟨_, within_a_r a b c, AllP.all h1⟩

theorem within_b_r (a b c : Int) : runF Try.prog D0 [] 100 Try.f21 [.one (.int .i64 false a), .one (.int .i64 false b), .one (.int .i64 false c)] [.is true, .keep, .keep, .keep] =
    some ((Go.Abs.AV.v (Go.Abs.A0.one (Go.Abs.Part.bool (Bool.false && Bool.false) (decide (a ≤ c))))), [((decide (a ≥ b)) = Bool.true)]) := by kernel_rfl
theorem within_b (a b c : Int)
    (h1 : ((decide (a ≥ b)) = Bool.true)) :
    ∃ ps, runF Try.prog D0 [] 100 Try.f21 [.one (.int .i64 false a), .one (.int .i64 false b), .one (.int .i64 false c)] [.is true, .keep, .keep, .keep] = some ((Go.Abs.AV.v (Go.Abs.A0.one (Go.Abs.Part.bool (Bool.false && Bool.false) (decide (a ≤ c))))), ps) ∧ AllQ ps := ⟨_, within_b_r a b c, AllP.all h1⟩

theorem within_ok : FnOK Try.prog D0 21 withinD := by
  refine fnOK_of gam_nil mixed Try.func21 (enters_of Try.func21 (by kernel_rfl) rfl) ?_
  intro xs r ps h hps
  unfold withinD at h
  split at h
  · rename_i s a t b u c
    simp only [Option.some.injEq, Prod.mk.injEq] at h
    obtain ⟨rfl, rfl⟩ := h
    by_cases hb : a ≥ b
    · obtain ⟨ps, h1, h2⟩ := within_b a b c (decide_eq_true hb)
      exact ⟨_, 100, _, _, _, fun w => args_cons int_lit (args_cons int_lit (args_cons int_lit fun _ h => h)), h1, h2, fun E v hv => one_bool (decide_eq_decide.2 (by omega)) hv⟩
    · obtain ⟨ps, h1, h2⟩ := within_a a b c (decide_eq_false hb)
      exact ⟨_, 100, _, _, _, fun w => args_cons int_lit (args_cons int_lit (args_cons int_lit fun _ h => h)), h1, h2, fun E v hv => one_bool (decide_eq_false (by omega)).symm hv⟩
  · cases h

/-- A message's parts. -/
def msgP (kd ep fr wh tp rd : Int) (bd : List Int) : List (Part D0.τ) := [.int .i64 false kd, .int .i64 false ep, .int .i64 false fr, .int .i64 false wh, .int .i64 false tp, .int .i64 false rd, .words .u8 bd]

/-- What a message's kind asks for. -/
def Rt (kd fr wh tp rd : Int) (n : Nat) : Prop :=
  (kd = 1 ∧ wh = fr ∨ kd = 2 ∨ kd = 3) ∧ 1 ≤ wh ∧ wh ≤ 9 ∧ 1 ≤ tp ∧ tp ≤ 3 ∧ rd = 0 ∧ 1 ≤ n ∧ n ≤ 4096 ∨
  (kd = 4 ∨ kd = 5) ∧ wh = 0 ∧ tp = 0 ∧ rd = 0 ∧ n = 32 ∨
  wh = 0 ∧ tp = 0 ∧ 1 ≤ rd ∧ rd ≤ 1099511627776 ∧ (kd = 6 ∧ n = 96 ∨ kd = 7 ∧ n = 0 ∨ kd = 8 ∧ n % 96 = 0 ∧ 96 ≤ n ∧ n ≤ 768)
instance (kd fr wh tp rd : Int) (n : Nat) : Decidable (Rt kd fr wh tp rd n) := by unfold Rt; infer_instance

def gw1 : Gam D0 := [(21, withinD)]
theorem gw1_ok : GamOK Try.prog D0 gw1 := gam_cons within_ok gam_nil

theorem right_k1_ne_r (kd ep fr wh tp rd : Int) (bd : List Int) : runF Try.prog D0 gw1 200 Try.f22 [.agg (msgP kd ep fr wh tp rd bd)] [.is true, .is true, .is true] =
    some ((Go.Abs.AV.v (Go.Abs.A0.one (Go.Abs.Part.bool Bool.true Bool.false))), [((kd == (1 : Int)) = Bool.true), ((kd == (1 : Int)) = Bool.true), ((wh != fr) = Bool.true)]) := by kernel_rfl
theorem right_k1_ne (kd ep fr wh tp rd : Int) (bd : List Int)
    (h1 : ((kd == (1 : Int)) = Bool.true))
    (h2 : ((wh != fr) = Bool.true)) :
    ∃ ps, runF Try.prog D0 gw1 200 Try.f22 [.agg (msgP kd ep fr wh tp rd bd)] [.is true, .is true, .is true] = some ((Go.Abs.AV.v (Go.Abs.A0.one (Go.Abs.Part.bool Bool.true Bool.false))), ps) ∧ AllQ ps := ⟨_, right_k1_ne_r kd ep fr wh tp rd bd, AllP.all ⟨h1, h1, h2⟩⟩

theorem right_k1_c0_r (kd ep fr wh tp rd : Int) (bd : List Int) : runF Try.prog D0 gw1 200 Try.f22 [.agg (msgP kd ep fr wh tp rd bd)] [.is true, .is true, .is false, .is false] =
    some ((Go.Abs.AV.v (Go.Abs.A0.one (Go.Abs.Part.bool Bool.true Bool.false))), [((kd == (1 : Int)) = Bool.true), ((kd == (1 : Int)) = Bool.true), ((wh != fr) = Bool.false), ((decide (((1 : Int) ≤ wh) ∧ (wh ≤ (9 : Int)))) = Bool.false)]) := by kernel_rfl
theorem right_k1_c0 (kd ep fr wh tp rd : Int) (bd : List Int)
    (h1 : ((kd == (1 : Int)) = Bool.true))
    (h2 : ((wh != fr) = Bool.false))
    (h3 : ((decide (((1 : Int) ≤ wh) ∧ (wh ≤ (9 : Int)))) = Bool.false)) :
    ∃ ps, runF Try.prog D0 gw1 200 Try.f22 [.agg (msgP kd ep fr wh tp rd bd)] [.is true, .is true, .is false, .is false] = some ((Go.Abs.AV.v (Go.Abs.A0.one (Go.Abs.Part.bool Bool.true Bool.false))), ps) ∧ AllQ ps := ⟨_, right_k1_c0_r kd ep fr wh tp rd bd, AllP.all ⟨h1, h1, h2, h3⟩⟩

theorem right_k1_c1_r (kd ep fr wh tp rd : Int) (bd : List Int) : runF Try.prog D0 gw1 200 Try.f22 [.agg (msgP kd ep fr wh tp rd bd)] [.is true, .is true, .is false, .is true, .is false] =
    some ((Go.Abs.AV.v (Go.Abs.A0.one (Go.Abs.Part.bool Bool.true Bool.false))), [((kd == (1 : Int)) = Bool.true), ((kd == (1 : Int)) = Bool.true), ((wh != fr) = Bool.false), ((decide (((1 : Int) ≤ wh) ∧ (wh ≤ (9 : Int)))) = Bool.true), ((decide (((1 : Int) ≤ tp) ∧ (tp ≤ (3 : Int)))) = Bool.false)]) := by kernel_rfl
theorem right_k1_c1 (kd ep fr wh tp rd : Int) (bd : List Int)
    (h1 : ((kd == (1 : Int)) = Bool.true))
    (h2 : ((wh != fr) = Bool.false))
    (h3 : ((decide (((1 : Int) ≤ wh) ∧ (wh ≤ (9 : Int)))) = Bool.true))
    (h4 : ((decide (((1 : Int) ≤ tp) ∧ (tp ≤ (3 : Int)))) = Bool.false)) :
    ∃ ps, runF Try.prog D0 gw1 200 Try.f22 [.agg (msgP kd ep fr wh tp rd bd)] [.is true, .is true, .is false, .is true, .is false] = some ((Go.Abs.AV.v (Go.Abs.A0.one (Go.Abs.Part.bool Bool.true Bool.false))), ps) ∧ AllQ ps := ⟨_, right_k1_c1_r kd ep fr wh tp rd bd, AllP.all ⟨h1, h1, h2, h3, h4⟩⟩

theorem right_k1_c2_r (kd ep fr wh tp rd : Int) (bd : List Int) : runF Try.prog D0 gw1 200 Try.f22 [.agg (msgP kd ep fr wh tp rd bd)] [.is true, .is true, .is false, .is true, .is true, .is false] =
    some ((Go.Abs.AV.v (Go.Abs.A0.one (Go.Abs.Part.bool Bool.true Bool.false))), [((kd == (1 : Int)) = Bool.true), ((kd == (1 : Int)) = Bool.true), ((wh != fr) = Bool.false), ((decide (((1 : Int) ≤ wh) ∧ (wh ≤ (9 : Int)))) = Bool.true), ((decide (((1 : Int) ≤ tp) ∧ (tp ≤ (3 : Int)))) = Bool.true), ((rd == (0 : Int)) = Bool.false)]) := by kernel_rfl
theorem right_k1_c2 (kd ep fr wh tp rd : Int) (bd : List Int)
    (h1 : ((kd == (1 : Int)) = Bool.true))
    (h2 : ((wh != fr) = Bool.false))
    (h3 : ((decide (((1 : Int) ≤ wh) ∧ (wh ≤ (9 : Int)))) = Bool.true))
    (h4 : ((decide (((1 : Int) ≤ tp) ∧ (tp ≤ (3 : Int)))) = Bool.true))
    (h5 : ((rd == (0 : Int)) = Bool.false)) :
    ∃ ps, runF Try.prog D0 gw1 200 Try.f22 [.agg (msgP kd ep fr wh tp rd bd)] [.is true, .is true, .is false, .is true, .is true, .is false] = some ((Go.Abs.AV.v (Go.Abs.A0.one (Go.Abs.Part.bool Bool.true Bool.false))), ps) ∧ AllQ ps := ⟨_, right_k1_c2_r kd ep fr wh tp rd bd, AllP.all ⟨h1, h1, h2, h3, h4, h5⟩⟩

theorem right_k1_c3_r (kd ep fr wh tp rd : Int) (bd : List Int) : runF Try.prog D0 gw1 200 Try.f22 [.agg (msgP kd ep fr wh tp rd bd)] [.is true, .is true, .is false, .is true, .is true, .is true, .keep, .keep, .keep] =
    some ((Go.Abs.AV.v (Go.Abs.A0.one (Go.Abs.Part.bool Bool.false (decide (((1 : Int) ≤ (((List.length bd) : Nat) : Int)) ∧ ((((List.length bd) : Nat) : Int) ≤ (4096 : Int))))))), [((kd == (1 : Int)) = Bool.true), ((kd == (1 : Int)) = Bool.true), ((wh != fr) = Bool.false), ((decide (((1 : Int) ≤ wh) ∧ (wh ≤ (9 : Int)))) = Bool.true), ((decide (((1 : Int) ≤ tp) ∧ (tp ≤ (3 : Int)))) = Bool.true), ((rd == (0 : Int)) = Bool.true)]) := by kernel_rfl
theorem right_k1_c3 (kd ep fr wh tp rd : Int) (bd : List Int)
    (h1 : ((kd == (1 : Int)) = Bool.true))
    (h2 : ((wh != fr) = Bool.false))
    (h3 : ((decide (((1 : Int) ≤ wh) ∧ (wh ≤ (9 : Int)))) = Bool.true))
    (h4 : ((decide (((1 : Int) ≤ tp) ∧ (tp ≤ (3 : Int)))) = Bool.true))
    (h5 : ((rd == (0 : Int)) = Bool.true)) :
    ∃ ps, runF Try.prog D0 gw1 200 Try.f22 [.agg (msgP kd ep fr wh tp rd bd)] [.is true, .is true, .is false, .is true, .is true, .is true, .keep, .keep, .keep] = some ((Go.Abs.AV.v (Go.Abs.A0.one (Go.Abs.Part.bool Bool.false (decide (((1 : Int) ≤ (((List.length bd) : Nat) : Int)) ∧ ((((List.length bd) : Nat) : Int) ≤ (4096 : Int))))))), ps) ∧ AllQ ps := ⟨_, right_k1_c3_r kd ep fr wh tp rd bd, AllP.all ⟨h1, h1, h2, h3, h4, h5⟩⟩

theorem right_k2_c0_r (kd ep fr wh tp rd : Int) (bd : List Int) : runF Try.prog D0 gw1 200 Try.f22 [.agg (msgP kd ep fr wh tp rd bd)] [.is false, .is true, .is false, .is false] =
    some ((Go.Abs.AV.v (Go.Abs.A0.one (Go.Abs.Part.bool Bool.true Bool.false))), [((kd == (1 : Int)) = Bool.false), ((kd == (2 : Int)) = Bool.true), ((kd == (1 : Int)) = Bool.false), ((decide (((1 : Int) ≤ wh) ∧ (wh ≤ (9 : Int)))) = Bool.false)]) := by kernel_rfl
theorem right_k2_c0 (kd ep fr wh tp rd : Int) (bd : List Int)
    (h1 : ((kd == (1 : Int)) = Bool.false))
    (h2 : ((kd == (2 : Int)) = Bool.true))
    (h3 : ((decide (((1 : Int) ≤ wh) ∧ (wh ≤ (9 : Int)))) = Bool.false)) :
    ∃ ps, runF Try.prog D0 gw1 200 Try.f22 [.agg (msgP kd ep fr wh tp rd bd)] [.is false, .is true, .is false, .is false] = some ((Go.Abs.AV.v (Go.Abs.A0.one (Go.Abs.Part.bool Bool.true Bool.false))), ps) ∧ AllQ ps := ⟨_, right_k2_c0_r kd ep fr wh tp rd bd, AllP.all ⟨h1, h2, h1, h3⟩⟩

theorem right_k2_c1_r (kd ep fr wh tp rd : Int) (bd : List Int) : runF Try.prog D0 gw1 200 Try.f22 [.agg (msgP kd ep fr wh tp rd bd)] [.is false, .is true, .is false, .is true, .is false] =
    some ((Go.Abs.AV.v (Go.Abs.A0.one (Go.Abs.Part.bool Bool.true Bool.false))), [((kd == (1 : Int)) = Bool.false), ((kd == (2 : Int)) = Bool.true), ((kd == (1 : Int)) = Bool.false), ((decide (((1 : Int) ≤ wh) ∧ (wh ≤ (9 : Int)))) = Bool.true), ((decide (((1 : Int) ≤ tp) ∧ (tp ≤ (3 : Int)))) = Bool.false)]) := by kernel_rfl
theorem right_k2_c1 (kd ep fr wh tp rd : Int) (bd : List Int)
    (h1 : ((kd == (1 : Int)) = Bool.false))
    (h2 : ((kd == (2 : Int)) = Bool.true))
    (h3 : ((decide (((1 : Int) ≤ wh) ∧ (wh ≤ (9 : Int)))) = Bool.true))
    (h4 : ((decide (((1 : Int) ≤ tp) ∧ (tp ≤ (3 : Int)))) = Bool.false)) :
    ∃ ps, runF Try.prog D0 gw1 200 Try.f22 [.agg (msgP kd ep fr wh tp rd bd)] [.is false, .is true, .is false, .is true, .is false] = some ((Go.Abs.AV.v (Go.Abs.A0.one (Go.Abs.Part.bool Bool.true Bool.false))), ps) ∧ AllQ ps := ⟨_, right_k2_c1_r kd ep fr wh tp rd bd, AllP.all ⟨h1, h2, h1, h3, h4⟩⟩

theorem right_k2_c2_r (kd ep fr wh tp rd : Int) (bd : List Int) : runF Try.prog D0 gw1 200 Try.f22 [.agg (msgP kd ep fr wh tp rd bd)] [.is false, .is true, .is false, .is true, .is true, .is false] =
    some ((Go.Abs.AV.v (Go.Abs.A0.one (Go.Abs.Part.bool Bool.true Bool.false))), [((kd == (1 : Int)) = Bool.false), ((kd == (2 : Int)) = Bool.true), ((kd == (1 : Int)) = Bool.false), ((decide (((1 : Int) ≤ wh) ∧ (wh ≤ (9 : Int)))) = Bool.true), ((decide (((1 : Int) ≤ tp) ∧ (tp ≤ (3 : Int)))) = Bool.true), ((rd == (0 : Int)) = Bool.false)]) := by kernel_rfl
theorem right_k2_c2 (kd ep fr wh tp rd : Int) (bd : List Int)
    (h1 : ((kd == (1 : Int)) = Bool.false))
    (h2 : ((kd == (2 : Int)) = Bool.true))
    (h3 : ((decide (((1 : Int) ≤ wh) ∧ (wh ≤ (9 : Int)))) = Bool.true))
    (h4 : ((decide (((1 : Int) ≤ tp) ∧ (tp ≤ (3 : Int)))) = Bool.true))
    (h5 : ((rd == (0 : Int)) = Bool.false)) :
    ∃ ps, runF Try.prog D0 gw1 200 Try.f22 [.agg (msgP kd ep fr wh tp rd bd)] [.is false, .is true, .is false, .is true, .is true, .is false] = some ((Go.Abs.AV.v (Go.Abs.A0.one (Go.Abs.Part.bool Bool.true Bool.false))), ps) ∧ AllQ ps := ⟨_, right_k2_c2_r kd ep fr wh tp rd bd, AllP.all ⟨h1, h2, h1, h3, h4, h5⟩⟩

theorem right_k2_c3_r (kd ep fr wh tp rd : Int) (bd : List Int) : runF Try.prog D0 gw1 200 Try.f22 [.agg (msgP kd ep fr wh tp rd bd)] [.is false, .is true, .is false, .is true, .is true, .is true, .keep, .keep, .keep] =
    some ((Go.Abs.AV.v (Go.Abs.A0.one (Go.Abs.Part.bool Bool.false (decide (((1 : Int) ≤ (((List.length bd) : Nat) : Int)) ∧ ((((List.length bd) : Nat) : Int) ≤ (4096 : Int))))))), [((kd == (1 : Int)) = Bool.false), ((kd == (2 : Int)) = Bool.true), ((kd == (1 : Int)) = Bool.false), ((decide (((1 : Int) ≤ wh) ∧ (wh ≤ (9 : Int)))) = Bool.true), ((decide (((1 : Int) ≤ tp) ∧ (tp ≤ (3 : Int)))) = Bool.true), ((rd == (0 : Int)) = Bool.true)]) := by kernel_rfl
theorem right_k2_c3 (kd ep fr wh tp rd : Int) (bd : List Int)
    (h1 : ((kd == (1 : Int)) = Bool.false))
    (h2 : ((kd == (2 : Int)) = Bool.true))
    (h3 : ((decide (((1 : Int) ≤ wh) ∧ (wh ≤ (9 : Int)))) = Bool.true))
    (h4 : ((decide (((1 : Int) ≤ tp) ∧ (tp ≤ (3 : Int)))) = Bool.true))
    (h5 : ((rd == (0 : Int)) = Bool.true)) :
    ∃ ps, runF Try.prog D0 gw1 200 Try.f22 [.agg (msgP kd ep fr wh tp rd bd)] [.is false, .is true, .is false, .is true, .is true, .is true, .keep, .keep, .keep] = some ((Go.Abs.AV.v (Go.Abs.A0.one (Go.Abs.Part.bool Bool.false (decide (((1 : Int) ≤ (((List.length bd) : Nat) : Int)) ∧ ((((List.length bd) : Nat) : Int) ≤ (4096 : Int))))))), ps) ∧ AllQ ps := ⟨_, right_k2_c3_r kd ep fr wh tp rd bd, AllP.all ⟨h1, h2, h1, h3, h4, h5⟩⟩

theorem right_k3_c0_r (kd ep fr wh tp rd : Int) (bd : List Int) : runF Try.prog D0 gw1 200 Try.f22 [.agg (msgP kd ep fr wh tp rd bd)] [.is false, .is false, .is true, .is false, .is false] =
    some ((Go.Abs.AV.v (Go.Abs.A0.one (Go.Abs.Part.bool Bool.true Bool.false))), [((kd == (1 : Int)) = Bool.false), ((kd == (2 : Int)) = Bool.false), ((kd == (3 : Int)) = Bool.true), ((kd == (1 : Int)) = Bool.false), ((decide (((1 : Int) ≤ wh) ∧ (wh ≤ (9 : Int)))) = Bool.false)]) := by kernel_rfl
theorem right_k3_c0 (kd ep fr wh tp rd : Int) (bd : List Int)
    (h1 : ((kd == (1 : Int)) = Bool.false))
    (h2 : ((kd == (2 : Int)) = Bool.false))
    (h3 : ((kd == (3 : Int)) = Bool.true))
    (h4 : ((decide (((1 : Int) ≤ wh) ∧ (wh ≤ (9 : Int)))) = Bool.false)) :
    ∃ ps, runF Try.prog D0 gw1 200 Try.f22 [.agg (msgP kd ep fr wh tp rd bd)] [.is false, .is false, .is true, .is false, .is false] = some ((Go.Abs.AV.v (Go.Abs.A0.one (Go.Abs.Part.bool Bool.true Bool.false))), ps) ∧ AllQ ps := ⟨_, right_k3_c0_r kd ep fr wh tp rd bd, AllP.all ⟨h1, h2, h3, h1, h4⟩⟩

theorem right_k3_c1_r (kd ep fr wh tp rd : Int) (bd : List Int) : runF Try.prog D0 gw1 200 Try.f22 [.agg (msgP kd ep fr wh tp rd bd)] [.is false, .is false, .is true, .is false, .is true, .is false] =
    some ((Go.Abs.AV.v (Go.Abs.A0.one (Go.Abs.Part.bool Bool.true Bool.false))), [((kd == (1 : Int)) = Bool.false), ((kd == (2 : Int)) = Bool.false), ((kd == (3 : Int)) = Bool.true), ((kd == (1 : Int)) = Bool.false), ((decide (((1 : Int) ≤ wh) ∧ (wh ≤ (9 : Int)))) = Bool.true), ((decide (((1 : Int) ≤ tp) ∧ (tp ≤ (3 : Int)))) = Bool.false)]) := by kernel_rfl
theorem right_k3_c1 (kd ep fr wh tp rd : Int) (bd : List Int)
    (h1 : ((kd == (1 : Int)) = Bool.false))
    (h2 : ((kd == (2 : Int)) = Bool.false))
    (h3 : ((kd == (3 : Int)) = Bool.true))
    (h4 : ((decide (((1 : Int) ≤ wh) ∧ (wh ≤ (9 : Int)))) = Bool.true))
    (h5 : ((decide (((1 : Int) ≤ tp) ∧ (tp ≤ (3 : Int)))) = Bool.false)) :
    ∃ ps, runF Try.prog D0 gw1 200 Try.f22 [.agg (msgP kd ep fr wh tp rd bd)] [.is false, .is false, .is true, .is false, .is true, .is false] = some ((Go.Abs.AV.v (Go.Abs.A0.one (Go.Abs.Part.bool Bool.true Bool.false))), ps) ∧ AllQ ps := ⟨_, right_k3_c1_r kd ep fr wh tp rd bd, AllP.all ⟨h1, h2, h3, h1, h4, h5⟩⟩

theorem right_k3_c2_r (kd ep fr wh tp rd : Int) (bd : List Int) : runF Try.prog D0 gw1 200 Try.f22 [.agg (msgP kd ep fr wh tp rd bd)] [.is false, .is false, .is true, .is false, .is true, .is true, .is false] =
    some ((Go.Abs.AV.v (Go.Abs.A0.one (Go.Abs.Part.bool Bool.true Bool.false))), [((kd == (1 : Int)) = Bool.false), ((kd == (2 : Int)) = Bool.false), ((kd == (3 : Int)) = Bool.true), ((kd == (1 : Int)) = Bool.false), ((decide (((1 : Int) ≤ wh) ∧ (wh ≤ (9 : Int)))) = Bool.true), ((decide (((1 : Int) ≤ tp) ∧ (tp ≤ (3 : Int)))) = Bool.true), ((rd == (0 : Int)) = Bool.false)]) := by kernel_rfl
theorem right_k3_c2 (kd ep fr wh tp rd : Int) (bd : List Int)
    (h1 : ((kd == (1 : Int)) = Bool.false))
    (h2 : ((kd == (2 : Int)) = Bool.false))
    (h3 : ((kd == (3 : Int)) = Bool.true))
    (h4 : ((decide (((1 : Int) ≤ wh) ∧ (wh ≤ (9 : Int)))) = Bool.true))
    (h5 : ((decide (((1 : Int) ≤ tp) ∧ (tp ≤ (3 : Int)))) = Bool.true))
    (h6 : ((rd == (0 : Int)) = Bool.false)) :
    ∃ ps, runF Try.prog D0 gw1 200 Try.f22 [.agg (msgP kd ep fr wh tp rd bd)] [.is false, .is false, .is true, .is false, .is true, .is true, .is false] = some ((Go.Abs.AV.v (Go.Abs.A0.one (Go.Abs.Part.bool Bool.true Bool.false))), ps) ∧ AllQ ps := ⟨_, right_k3_c2_r kd ep fr wh tp rd bd, AllP.all ⟨h1, h2, h3, h1, h4, h5, h6⟩⟩

theorem right_k3_c3_r (kd ep fr wh tp rd : Int) (bd : List Int) : runF Try.prog D0 gw1 200 Try.f22 [.agg (msgP kd ep fr wh tp rd bd)] [.is false, .is false, .is true, .is false, .is true, .is true, .is true, .keep, .keep, .keep] =
    some ((Go.Abs.AV.v (Go.Abs.A0.one (Go.Abs.Part.bool Bool.false (decide (((1 : Int) ≤ (((List.length bd) : Nat) : Int)) ∧ ((((List.length bd) : Nat) : Int) ≤ (4096 : Int))))))), [((kd == (1 : Int)) = Bool.false), ((kd == (2 : Int)) = Bool.false), ((kd == (3 : Int)) = Bool.true), ((kd == (1 : Int)) = Bool.false), ((decide (((1 : Int) ≤ wh) ∧ (wh ≤ (9 : Int)))) = Bool.true), ((decide (((1 : Int) ≤ tp) ∧ (tp ≤ (3 : Int)))) = Bool.true), ((rd == (0 : Int)) = Bool.true)]) := by kernel_rfl
theorem right_k3_c3 (kd ep fr wh tp rd : Int) (bd : List Int)
    (h1 : ((kd == (1 : Int)) = Bool.false))
    (h2 : ((kd == (2 : Int)) = Bool.false))
    (h3 : ((kd == (3 : Int)) = Bool.true))
    (h4 : ((decide (((1 : Int) ≤ wh) ∧ (wh ≤ (9 : Int)))) = Bool.true))
    (h5 : ((decide (((1 : Int) ≤ tp) ∧ (tp ≤ (3 : Int)))) = Bool.true))
    (h6 : ((rd == (0 : Int)) = Bool.true)) :
    ∃ ps, runF Try.prog D0 gw1 200 Try.f22 [.agg (msgP kd ep fr wh tp rd bd)] [.is false, .is false, .is true, .is false, .is true, .is true, .is true, .keep, .keep, .keep] = some ((Go.Abs.AV.v (Go.Abs.A0.one (Go.Abs.Part.bool Bool.false (decide (((1 : Int) ≤ (((List.length bd) : Nat) : Int)) ∧ ((((List.length bd) : Nat) : Int) ≤ (4096 : Int))))))), ps) ∧ AllQ ps := ⟨_, right_k3_c3_r kd ep fr wh tp rd bd, AllP.all ⟨h1, h2, h3, h1, h4, h5, h6⟩⟩

theorem right_k4_c0_r (kd ep fr wh tp rd : Int) (bd : List Int) : runF Try.prog D0 gw1 200 Try.f22 [.agg (msgP kd ep fr wh tp rd bd)] [.is false, .is false, .is false, .is true, .is false] =
    some ((Go.Abs.AV.v (Go.Abs.A0.one (Go.Abs.Part.bool Bool.true Bool.false))), [((kd == (1 : Int)) = Bool.false), ((kd == (2 : Int)) = Bool.false), ((kd == (3 : Int)) = Bool.false), ((kd == (4 : Int)) = Bool.true), ((wh == (0 : Int)) = Bool.false)]) := by kernel_rfl
theorem right_k4_c0 (kd ep fr wh tp rd : Int) (bd : List Int)
    (h1 : ((kd == (1 : Int)) = Bool.false))
    (h2 : ((kd == (2 : Int)) = Bool.false))
    (h3 : ((kd == (3 : Int)) = Bool.false))
    (h4 : ((kd == (4 : Int)) = Bool.true))
    (h5 : ((wh == (0 : Int)) = Bool.false)) :
    ∃ ps, runF Try.prog D0 gw1 200 Try.f22 [.agg (msgP kd ep fr wh tp rd bd)] [.is false, .is false, .is false, .is true, .is false] = some ((Go.Abs.AV.v (Go.Abs.A0.one (Go.Abs.Part.bool Bool.true Bool.false))), ps) ∧ AllQ ps := ⟨_, right_k4_c0_r kd ep fr wh tp rd bd, AllP.all ⟨h1, h2, h3, h4, h5⟩⟩

theorem right_k4_c1_r (kd ep fr wh tp rd : Int) (bd : List Int) : runF Try.prog D0 gw1 200 Try.f22 [.agg (msgP kd ep fr wh tp rd bd)] [.is false, .is false, .is false, .is true, .is true, .is false] =
    some ((Go.Abs.AV.v (Go.Abs.A0.one (Go.Abs.Part.bool Bool.true Bool.false))), [((kd == (1 : Int)) = Bool.false), ((kd == (2 : Int)) = Bool.false), ((kd == (3 : Int)) = Bool.false), ((kd == (4 : Int)) = Bool.true), ((wh == (0 : Int)) = Bool.true), ((tp == (0 : Int)) = Bool.false)]) := by kernel_rfl
theorem right_k4_c1 (kd ep fr wh tp rd : Int) (bd : List Int)
    (h1 : ((kd == (1 : Int)) = Bool.false))
    (h2 : ((kd == (2 : Int)) = Bool.false))
    (h3 : ((kd == (3 : Int)) = Bool.false))
    (h4 : ((kd == (4 : Int)) = Bool.true))
    (h5 : ((wh == (0 : Int)) = Bool.true))
    (h6 : ((tp == (0 : Int)) = Bool.false)) :
    ∃ ps, runF Try.prog D0 gw1 200 Try.f22 [.agg (msgP kd ep fr wh tp rd bd)] [.is false, .is false, .is false, .is true, .is true, .is false] = some ((Go.Abs.AV.v (Go.Abs.A0.one (Go.Abs.Part.bool Bool.true Bool.false))), ps) ∧ AllQ ps := ⟨_, right_k4_c1_r kd ep fr wh tp rd bd, AllP.all ⟨h1, h2, h3, h4, h5, h6⟩⟩

theorem right_k4_c2_r (kd ep fr wh tp rd : Int) (bd : List Int) : runF Try.prog D0 gw1 200 Try.f22 [.agg (msgP kd ep fr wh tp rd bd)] [.is false, .is false, .is false, .is true, .is true, .is true, .is false] =
    some ((Go.Abs.AV.v (Go.Abs.A0.one (Go.Abs.Part.bool Bool.true Bool.false))), [((kd == (1 : Int)) = Bool.false), ((kd == (2 : Int)) = Bool.false), ((kd == (3 : Int)) = Bool.false), ((kd == (4 : Int)) = Bool.true), ((wh == (0 : Int)) = Bool.true), ((tp == (0 : Int)) = Bool.true), ((rd == (0 : Int)) = Bool.false)]) := by kernel_rfl
theorem right_k4_c2 (kd ep fr wh tp rd : Int) (bd : List Int)
    (h1 : ((kd == (1 : Int)) = Bool.false))
    (h2 : ((kd == (2 : Int)) = Bool.false))
    (h3 : ((kd == (3 : Int)) = Bool.false))
    (h4 : ((kd == (4 : Int)) = Bool.true))
    (h5 : ((wh == (0 : Int)) = Bool.true))
    (h6 : ((tp == (0 : Int)) = Bool.true))
    (h7 : ((rd == (0 : Int)) = Bool.false)) :
    ∃ ps, runF Try.prog D0 gw1 200 Try.f22 [.agg (msgP kd ep fr wh tp rd bd)] [.is false, .is false, .is false, .is true, .is true, .is true, .is false] = some ((Go.Abs.AV.v (Go.Abs.A0.one (Go.Abs.Part.bool Bool.true Bool.false))), ps) ∧ AllQ ps := ⟨_, right_k4_c2_r kd ep fr wh tp rd bd, AllP.all ⟨h1, h2, h3, h4, h5, h6, h7⟩⟩

theorem right_k4_c3_r (kd ep fr wh tp rd : Int) (bd : List Int) : runF Try.prog D0 gw1 200 Try.f22 [.agg (msgP kd ep fr wh tp rd bd)] [.is false, .is false, .is false, .is true, .is true, .is true, .is true, .keep, .keep, .keep] =
    some ((Go.Abs.AV.v (Go.Abs.A0.one (Go.Abs.Part.bool (Bool.false && Bool.true) ((((List.length bd) : Nat) : Int) == (32 : Int))))), [((kd == (1 : Int)) = Bool.false), ((kd == (2 : Int)) = Bool.false), ((kd == (3 : Int)) = Bool.false), ((kd == (4 : Int)) = Bool.true), ((wh == (0 : Int)) = Bool.true), ((tp == (0 : Int)) = Bool.true), ((rd == (0 : Int)) = Bool.true)]) := by kernel_rfl
theorem right_k4_c3 (kd ep fr wh tp rd : Int) (bd : List Int)
    (h1 : ((kd == (1 : Int)) = Bool.false))
    (h2 : ((kd == (2 : Int)) = Bool.false))
    (h3 : ((kd == (3 : Int)) = Bool.false))
    (h4 : ((kd == (4 : Int)) = Bool.true))
    (h5 : ((wh == (0 : Int)) = Bool.true))
    (h6 : ((tp == (0 : Int)) = Bool.true))
    (h7 : ((rd == (0 : Int)) = Bool.true)) :
    ∃ ps, runF Try.prog D0 gw1 200 Try.f22 [.agg (msgP kd ep fr wh tp rd bd)] [.is false, .is false, .is false, .is true, .is true, .is true, .is true, .keep, .keep, .keep] = some ((Go.Abs.AV.v (Go.Abs.A0.one (Go.Abs.Part.bool (Bool.false && Bool.true) ((((List.length bd) : Nat) : Int) == (32 : Int))))), ps) ∧ AllQ ps := ⟨_, right_k4_c3_r kd ep fr wh tp rd bd, AllP.all ⟨h1, h2, h3, h4, h5, h6, h7⟩⟩

theorem right_k5_c0_r (kd ep fr wh tp rd : Int) (bd : List Int) : runF Try.prog D0 gw1 200 Try.f22 [.agg (msgP kd ep fr wh tp rd bd)] [.is false, .is false, .is false, .is false, .is true, .is false] =
    some ((Go.Abs.AV.v (Go.Abs.A0.one (Go.Abs.Part.bool Bool.true Bool.false))), [((kd == (1 : Int)) = Bool.false), ((kd == (2 : Int)) = Bool.false), ((kd == (3 : Int)) = Bool.false), ((kd == (4 : Int)) = Bool.false), ((kd == (5 : Int)) = Bool.true), ((wh == (0 : Int)) = Bool.false)]) := by kernel_rfl
theorem right_k5_c0 (kd ep fr wh tp rd : Int) (bd : List Int)
    (h1 : ((kd == (1 : Int)) = Bool.false))
    (h2 : ((kd == (2 : Int)) = Bool.false))
    (h3 : ((kd == (3 : Int)) = Bool.false))
    (h4 : ((kd == (4 : Int)) = Bool.false))
    (h5 : ((kd == (5 : Int)) = Bool.true))
    (h6 : ((wh == (0 : Int)) = Bool.false)) :
    ∃ ps, runF Try.prog D0 gw1 200 Try.f22 [.agg (msgP kd ep fr wh tp rd bd)] [.is false, .is false, .is false, .is false, .is true, .is false] = some ((Go.Abs.AV.v (Go.Abs.A0.one (Go.Abs.Part.bool Bool.true Bool.false))), ps) ∧ AllQ ps := ⟨_, right_k5_c0_r kd ep fr wh tp rd bd, AllP.all ⟨h1, h2, h3, h4, h5, h6⟩⟩

theorem right_k5_c1_r (kd ep fr wh tp rd : Int) (bd : List Int) : runF Try.prog D0 gw1 200 Try.f22 [.agg (msgP kd ep fr wh tp rd bd)] [.is false, .is false, .is false, .is false, .is true, .is true, .is false] =
    some ((Go.Abs.AV.v (Go.Abs.A0.one (Go.Abs.Part.bool Bool.true Bool.false))), [((kd == (1 : Int)) = Bool.false), ((kd == (2 : Int)) = Bool.false), ((kd == (3 : Int)) = Bool.false), ((kd == (4 : Int)) = Bool.false), ((kd == (5 : Int)) = Bool.true), ((wh == (0 : Int)) = Bool.true), ((tp == (0 : Int)) = Bool.false)]) := by kernel_rfl
theorem right_k5_c1 (kd ep fr wh tp rd : Int) (bd : List Int)
    (h1 : ((kd == (1 : Int)) = Bool.false))
    (h2 : ((kd == (2 : Int)) = Bool.false))
    (h3 : ((kd == (3 : Int)) = Bool.false))
    (h4 : ((kd == (4 : Int)) = Bool.false))
    (h5 : ((kd == (5 : Int)) = Bool.true))
    (h6 : ((wh == (0 : Int)) = Bool.true))
    (h7 : ((tp == (0 : Int)) = Bool.false)) :
    ∃ ps, runF Try.prog D0 gw1 200 Try.f22 [.agg (msgP kd ep fr wh tp rd bd)] [.is false, .is false, .is false, .is false, .is true, .is true, .is false] = some ((Go.Abs.AV.v (Go.Abs.A0.one (Go.Abs.Part.bool Bool.true Bool.false))), ps) ∧ AllQ ps := ⟨_, right_k5_c1_r kd ep fr wh tp rd bd, AllP.all ⟨h1, h2, h3, h4, h5, h6, h7⟩⟩

theorem right_k5_c2_r (kd ep fr wh tp rd : Int) (bd : List Int) : runF Try.prog D0 gw1 200 Try.f22 [.agg (msgP kd ep fr wh tp rd bd)] [.is false, .is false, .is false, .is false, .is true, .is true, .is true, .is false] =
    some ((Go.Abs.AV.v (Go.Abs.A0.one (Go.Abs.Part.bool Bool.true Bool.false))), [((kd == (1 : Int)) = Bool.false), ((kd == (2 : Int)) = Bool.false), ((kd == (3 : Int)) = Bool.false), ((kd == (4 : Int)) = Bool.false), ((kd == (5 : Int)) = Bool.true), ((wh == (0 : Int)) = Bool.true), ((tp == (0 : Int)) = Bool.true), ((rd == (0 : Int)) = Bool.false)]) := by kernel_rfl
theorem right_k5_c2 (kd ep fr wh tp rd : Int) (bd : List Int)
    (h1 : ((kd == (1 : Int)) = Bool.false))
    (h2 : ((kd == (2 : Int)) = Bool.false))
    (h3 : ((kd == (3 : Int)) = Bool.false))
    (h4 : ((kd == (4 : Int)) = Bool.false))
    (h5 : ((kd == (5 : Int)) = Bool.true))
    (h6 : ((wh == (0 : Int)) = Bool.true))
    (h7 : ((tp == (0 : Int)) = Bool.true))
    (h8 : ((rd == (0 : Int)) = Bool.false)) :
    ∃ ps, runF Try.prog D0 gw1 200 Try.f22 [.agg (msgP kd ep fr wh tp rd bd)] [.is false, .is false, .is false, .is false, .is true, .is true, .is true, .is false] = some ((Go.Abs.AV.v (Go.Abs.A0.one (Go.Abs.Part.bool Bool.true Bool.false))), ps) ∧ AllQ ps := ⟨_, right_k5_c2_r kd ep fr wh tp rd bd, AllP.all ⟨h1, h2, h3, h4, h5, h6, h7, h8⟩⟩

theorem right_k5_c3_r (kd ep fr wh tp rd : Int) (bd : List Int) : runF Try.prog D0 gw1 200 Try.f22 [.agg (msgP kd ep fr wh tp rd bd)] [.is false, .is false, .is false, .is false, .is true, .is true, .is true, .is true, .keep, .keep, .keep] =
    some ((Go.Abs.AV.v (Go.Abs.A0.one (Go.Abs.Part.bool (Bool.false && Bool.true) ((((List.length bd) : Nat) : Int) == (32 : Int))))), [((kd == (1 : Int)) = Bool.false), ((kd == (2 : Int)) = Bool.false), ((kd == (3 : Int)) = Bool.false), ((kd == (4 : Int)) = Bool.false), ((kd == (5 : Int)) = Bool.true), ((wh == (0 : Int)) = Bool.true), ((tp == (0 : Int)) = Bool.true), ((rd == (0 : Int)) = Bool.true)]) := by kernel_rfl
theorem right_k5_c3 (kd ep fr wh tp rd : Int) (bd : List Int)
    (h1 : ((kd == (1 : Int)) = Bool.false))
    (h2 : ((kd == (2 : Int)) = Bool.false))
    (h3 : ((kd == (3 : Int)) = Bool.false))
    (h4 : ((kd == (4 : Int)) = Bool.false))
    (h5 : ((kd == (5 : Int)) = Bool.true))
    (h6 : ((wh == (0 : Int)) = Bool.true))
    (h7 : ((tp == (0 : Int)) = Bool.true))
    (h8 : ((rd == (0 : Int)) = Bool.true)) :
    ∃ ps, runF Try.prog D0 gw1 200 Try.f22 [.agg (msgP kd ep fr wh tp rd bd)] [.is false, .is false, .is false, .is false, .is true, .is true, .is true, .is true, .keep, .keep, .keep] = some ((Go.Abs.AV.v (Go.Abs.A0.one (Go.Abs.Part.bool (Bool.false && Bool.true) ((((List.length bd) : Nat) : Int) == (32 : Int))))), ps) ∧ AllQ ps := ⟨_, right_k5_c3_r kd ep fr wh tp rd bd, AllP.all ⟨h1, h2, h3, h4, h5, h6, h7, h8⟩⟩

theorem right_o_w_r (kd ep fr wh tp rd : Int) (bd : List Int) : runF Try.prog D0 gw1 200 Try.f22 [.agg (msgP kd ep fr wh tp rd bd)] [.is false, .is false, .is false, .is false, .is false, .is true] =
    some ((Go.Abs.AV.v (Go.Abs.A0.one (Go.Abs.Part.bool Bool.true Bool.false))), [((kd == (1 : Int)) = Bool.false), ((kd == (2 : Int)) = Bool.false), ((kd == (3 : Int)) = Bool.false), ((kd == (4 : Int)) = Bool.false), ((kd == (5 : Int)) = Bool.false), ((wh != (0 : Int)) = Bool.true)]) := by kernel_rfl
theorem right_o_w (kd ep fr wh tp rd : Int) (bd : List Int)
    (h1 : ((kd == (1 : Int)) = Bool.false))
    (h2 : ((kd == (2 : Int)) = Bool.false))
    (h3 : ((kd == (3 : Int)) = Bool.false))
    (h4 : ((kd == (4 : Int)) = Bool.false))
    (h5 : ((kd == (5 : Int)) = Bool.false))
    (h6 : ((wh != (0 : Int)) = Bool.true)) :
    ∃ ps, runF Try.prog D0 gw1 200 Try.f22 [.agg (msgP kd ep fr wh tp rd bd)] [.is false, .is false, .is false, .is false, .is false, .is true] = some ((Go.Abs.AV.v (Go.Abs.A0.one (Go.Abs.Part.bool Bool.true Bool.false))), ps) ∧ AllQ ps := ⟨_, right_o_w_r kd ep fr wh tp rd bd, AllP.all ⟨h1, h2, h3, h4, h5, h6⟩⟩

theorem right_o_t_r (kd ep fr wh tp rd : Int) (bd : List Int) : runF Try.prog D0 gw1 200 Try.f22 [.agg (msgP kd ep fr wh tp rd bd)] [.is false, .is false, .is false, .is false, .is false, .is false, .is true] =
    some ((Go.Abs.AV.v (Go.Abs.A0.one (Go.Abs.Part.bool Bool.true Bool.false))), [((kd == (1 : Int)) = Bool.false), ((kd == (2 : Int)) = Bool.false), ((kd == (3 : Int)) = Bool.false), ((kd == (4 : Int)) = Bool.false), ((kd == (5 : Int)) = Bool.false), ((wh != (0 : Int)) = Bool.false), ((tp != (0 : Int)) = Bool.true)]) := by kernel_rfl
theorem right_o_t (kd ep fr wh tp rd : Int) (bd : List Int)
    (h1 : ((kd == (1 : Int)) = Bool.false))
    (h2 : ((kd == (2 : Int)) = Bool.false))
    (h3 : ((kd == (3 : Int)) = Bool.false))
    (h4 : ((kd == (4 : Int)) = Bool.false))
    (h5 : ((kd == (5 : Int)) = Bool.false))
    (h6 : ((wh != (0 : Int)) = Bool.false))
    (h7 : ((tp != (0 : Int)) = Bool.true)) :
    ∃ ps, runF Try.prog D0 gw1 200 Try.f22 [.agg (msgP kd ep fr wh tp rd bd)] [.is false, .is false, .is false, .is false, .is false, .is false, .is true] = some ((Go.Abs.AV.v (Go.Abs.A0.one (Go.Abs.Part.bool Bool.true Bool.false))), ps) ∧ AllQ ps := ⟨_, right_o_t_r kd ep fr wh tp rd bd, AllP.all ⟨h1, h2, h3, h4, h5, h6, h7⟩⟩

theorem right_o_r_r (kd ep fr wh tp rd : Int) (bd : List Int) : runF Try.prog D0 gw1 200 Try.f22 [.agg (msgP kd ep fr wh tp rd bd)] [.is false, .is false, .is false, .is false, .is false, .is false, .is false, .is false] =
    some ((Go.Abs.AV.v (Go.Abs.A0.one (Go.Abs.Part.bool Bool.true Bool.false))), [((kd == (1 : Int)) = Bool.false), ((kd == (2 : Int)) = Bool.false), ((kd == (3 : Int)) = Bool.false), ((kd == (4 : Int)) = Bool.false), ((kd == (5 : Int)) = Bool.false), ((wh != (0 : Int)) = Bool.false), ((tp != (0 : Int)) = Bool.false), ((decide (((1 : Int) ≤ rd) ∧ (rd ≤ (1099511627776 : Int)))) = Bool.false)]) := by kernel_rfl
theorem right_o_r (kd ep fr wh tp rd : Int) (bd : List Int)
    (h1 : ((kd == (1 : Int)) = Bool.false))
    (h2 : ((kd == (2 : Int)) = Bool.false))
    (h3 : ((kd == (3 : Int)) = Bool.false))
    (h4 : ((kd == (4 : Int)) = Bool.false))
    (h5 : ((kd == (5 : Int)) = Bool.false))
    (h6 : ((wh != (0 : Int)) = Bool.false))
    (h7 : ((tp != (0 : Int)) = Bool.false))
    (h8 : ((decide (((1 : Int) ≤ rd) ∧ (rd ≤ (1099511627776 : Int)))) = Bool.false)) :
    ∃ ps, runF Try.prog D0 gw1 200 Try.f22 [.agg (msgP kd ep fr wh tp rd bd)] [.is false, .is false, .is false, .is false, .is false, .is false, .is false, .is false] = some ((Go.Abs.AV.v (Go.Abs.A0.one (Go.Abs.Part.bool Bool.true Bool.false))), ps) ∧ AllQ ps := ⟨_, right_o_r_r kd ep fr wh tp rd bd, AllP.all ⟨h1, h2, h3, h4, h5, h6, h7, h8⟩⟩

theorem right_o_6_r (kd ep fr wh tp rd : Int) (bd : List Int) : runF Try.prog D0 gw1 200 Try.f22 [.agg (msgP kd ep fr wh tp rd bd)] [.is false, .is false, .is false, .is false, .is false, .is false, .is false, .is true, .is true, .keep, .keep] =
    some ((Go.Abs.AV.v (Go.Abs.A0.one (Go.Abs.Part.bool (Bool.false && Bool.true) ((((List.length bd) : Nat) : Int) == (96 : Int))))), [((kd == (1 : Int)) = Bool.false), ((kd == (2 : Int)) = Bool.false), ((kd == (3 : Int)) = Bool.false), ((kd == (4 : Int)) = Bool.false), ((kd == (5 : Int)) = Bool.false), ((wh != (0 : Int)) = Bool.false), ((tp != (0 : Int)) = Bool.false), ((decide (((1 : Int) ≤ rd) ∧ (rd ≤ (1099511627776 : Int)))) = Bool.true), ((kd == (6 : Int)) = Bool.true)]) := by kernel_rfl
theorem right_o_6 (kd ep fr wh tp rd : Int) (bd : List Int)
    (h1 : ((kd == (1 : Int)) = Bool.false))
    (h2 : ((kd == (2 : Int)) = Bool.false))
    (h3 : ((kd == (3 : Int)) = Bool.false))
    (h4 : ((kd == (4 : Int)) = Bool.false))
    (h5 : ((kd == (5 : Int)) = Bool.false))
    (h6 : ((wh != (0 : Int)) = Bool.false))
    (h7 : ((tp != (0 : Int)) = Bool.false))
    (h8 : ((decide (((1 : Int) ≤ rd) ∧ (rd ≤ (1099511627776 : Int)))) = Bool.true))
    (h9 : ((kd == (6 : Int)) = Bool.true)) :
    ∃ ps, runF Try.prog D0 gw1 200 Try.f22 [.agg (msgP kd ep fr wh tp rd bd)] [.is false, .is false, .is false, .is false, .is false, .is false, .is false, .is true, .is true, .keep, .keep] = some ((Go.Abs.AV.v (Go.Abs.A0.one (Go.Abs.Part.bool (Bool.false && Bool.true) ((((List.length bd) : Nat) : Int) == (96 : Int))))), ps) ∧ AllQ ps := ⟨_, right_o_6_r kd ep fr wh tp rd bd, AllP.all ⟨h1, h2, h3, h4, h5, h6, h7, h8, h9⟩⟩

theorem right_o_7_r (kd ep fr wh tp rd : Int) (bd : List Int) : runF Try.prog D0 gw1 200 Try.f22 [.agg (msgP kd ep fr wh tp rd bd)] [.is false, .is false, .is false, .is false, .is false, .is false, .is false, .is true, .is false, .is true, .keep, .keep] =
    some ((Go.Abs.AV.v (Go.Abs.A0.one (Go.Abs.Part.bool (Bool.false && Bool.true) ((((List.length bd) : Nat) : Int) == (0 : Int))))), [((kd == (1 : Int)) = Bool.false), ((kd == (2 : Int)) = Bool.false), ((kd == (3 : Int)) = Bool.false), ((kd == (4 : Int)) = Bool.false), ((kd == (5 : Int)) = Bool.false), ((wh != (0 : Int)) = Bool.false), ((tp != (0 : Int)) = Bool.false), ((decide (((1 : Int) ≤ rd) ∧ (rd ≤ (1099511627776 : Int)))) = Bool.true), ((kd == (6 : Int)) = Bool.false), ((kd == (7 : Int)) = Bool.true)]) := by kernel_rfl
theorem right_o_7 (kd ep fr wh tp rd : Int) (bd : List Int)
    (h1 : ((kd == (1 : Int)) = Bool.false))
    (h2 : ((kd == (2 : Int)) = Bool.false))
    (h3 : ((kd == (3 : Int)) = Bool.false))
    (h4 : ((kd == (4 : Int)) = Bool.false))
    (h5 : ((kd == (5 : Int)) = Bool.false))
    (h6 : ((wh != (0 : Int)) = Bool.false))
    (h7 : ((tp != (0 : Int)) = Bool.false))
    (h8 : ((decide (((1 : Int) ≤ rd) ∧ (rd ≤ (1099511627776 : Int)))) = Bool.true))
    (h9 : ((kd == (6 : Int)) = Bool.false))
    (h10 : ((kd == (7 : Int)) = Bool.true)) :
    ∃ ps, runF Try.prog D0 gw1 200 Try.f22 [.agg (msgP kd ep fr wh tp rd bd)] [.is false, .is false, .is false, .is false, .is false, .is false, .is false, .is true, .is false, .is true, .keep, .keep] = some ((Go.Abs.AV.v (Go.Abs.A0.one (Go.Abs.Part.bool (Bool.false && Bool.true) ((((List.length bd) : Nat) : Int) == (0 : Int))))), ps) ∧ AllQ ps := ⟨_, right_o_7_r kd ep fr wh tp rd bd, AllP.all ⟨h1, h2, h3, h4, h5, h6, h7, h8, h9, h10⟩⟩

theorem right_o_8a_r (kd ep fr wh tp rd : Int) (bd : List Int) : runF Try.prog D0 gw1 200 Try.f22 [.agg (msgP kd ep fr wh tp rd bd)] [.is false, .is false, .is false, .is false, .is false, .is false, .is false, .is true, .is false, .is false, .is true, .is false] =
    some ((Go.Abs.AV.v (Go.Abs.A0.one (Go.Abs.Part.bool Bool.true Bool.false))), [((kd == (1 : Int)) = Bool.false), ((kd == (2 : Int)) = Bool.false), ((kd == (3 : Int)) = Bool.false), ((kd == (4 : Int)) = Bool.false), ((kd == (5 : Int)) = Bool.false), ((wh != (0 : Int)) = Bool.false), ((tp != (0 : Int)) = Bool.false), ((decide (((1 : Int) ≤ rd) ∧ (rd ≤ (1099511627776 : Int)))) = Bool.true), ((kd == (6 : Int)) = Bool.false), ((kd == (7 : Int)) = Bool.false), ((kd == (8 : Int)) = Bool.true), (((Int.tmod (((List.length bd) : Nat) : Int) (96 : Int)) == (0 : Int)) = Bool.false)]) := by kernel_rfl
theorem right_o_8a (kd ep fr wh tp rd : Int) (bd : List Int)
    (h1 : ((kd == (1 : Int)) = Bool.false))
    (h2 : ((kd == (2 : Int)) = Bool.false))
    (h3 : ((kd == (3 : Int)) = Bool.false))
    (h4 : ((kd == (4 : Int)) = Bool.false))
    (h5 : ((kd == (5 : Int)) = Bool.false))
    (h6 : ((wh != (0 : Int)) = Bool.false))
    (h7 : ((tp != (0 : Int)) = Bool.false))
    (h8 : ((decide (((1 : Int) ≤ rd) ∧ (rd ≤ (1099511627776 : Int)))) = Bool.true))
    (h9 : ((kd == (6 : Int)) = Bool.false))
    (h10 : ((kd == (7 : Int)) = Bool.false))
    (h11 : ((kd == (8 : Int)) = Bool.true))
    (h12 : (((Int.tmod (((List.length bd) : Nat) : Int) (96 : Int)) == (0 : Int)) = Bool.false)) :
    ∃ ps, runF Try.prog D0 gw1 200 Try.f22 [.agg (msgP kd ep fr wh tp rd bd)] [.is false, .is false, .is false, .is false, .is false, .is false, .is false, .is true, .is false, .is false, .is true, .is false] = some ((Go.Abs.AV.v (Go.Abs.A0.one (Go.Abs.Part.bool Bool.true Bool.false))), ps) ∧ AllQ ps := ⟨_, right_o_8a_r kd ep fr wh tp rd bd, AllP.all ⟨h1, h2, h3, h4, h5, h6, h7, h8, h9, h10, h11, h12⟩⟩

theorem right_o_8b_r (kd ep fr wh tp rd : Int) (bd : List Int) : runF Try.prog D0 gw1 200 Try.f22 [.agg (msgP kd ep fr wh tp rd bd)] [.is false, .is false, .is false, .is false, .is false, .is false, .is false, .is true, .is false, .is false, .is true, .is true, .keep, .keep, .keep] =
    some ((Go.Abs.AV.v (Go.Abs.A0.one (Go.Abs.Part.bool Bool.false (decide (((1 : Int) ≤ (Go.IntKind.wrap Go.IntKind.i64 (Int.tdiv (((List.length bd) : Nat) : Int) (96 : Int)))) ∧ ((Go.IntKind.wrap Go.IntKind.i64 (Int.tdiv (((List.length bd) : Nat) : Int) (96 : Int))) ≤ (8 : Int))))))), [((kd == (1 : Int)) = Bool.false), ((kd == (2 : Int)) = Bool.false), ((kd == (3 : Int)) = Bool.false), ((kd == (4 : Int)) = Bool.false), ((kd == (5 : Int)) = Bool.false), ((wh != (0 : Int)) = Bool.false), ((tp != (0 : Int)) = Bool.false), ((decide (((1 : Int) ≤ rd) ∧ (rd ≤ (1099511627776 : Int)))) = Bool.true), ((kd == (6 : Int)) = Bool.false), ((kd == (7 : Int)) = Bool.false), ((kd == (8 : Int)) = Bool.true), (((Int.tmod (((List.length bd) : Nat) : Int) (96 : Int)) == (0 : Int)) = Bool.true), ((96 : Int) ≠ (0 : Int))]) := by kernel_rfl
theorem right_o_8b (kd ep fr wh tp rd : Int) (bd : List Int)
    (h1 : ((kd == (1 : Int)) = Bool.false))
    (h2 : ((kd == (2 : Int)) = Bool.false))
    (h3 : ((kd == (3 : Int)) = Bool.false))
    (h4 : ((kd == (4 : Int)) = Bool.false))
    (h5 : ((kd == (5 : Int)) = Bool.false))
    (h6 : ((wh != (0 : Int)) = Bool.false))
    (h7 : ((tp != (0 : Int)) = Bool.false))
    (h8 : ((decide (((1 : Int) ≤ rd) ∧ (rd ≤ (1099511627776 : Int)))) = Bool.true))
    (h9 : ((kd == (6 : Int)) = Bool.false))
    (h10 : ((kd == (7 : Int)) = Bool.false))
    (h11 : ((kd == (8 : Int)) = Bool.true))
    (h12 : (((Int.tmod (((List.length bd) : Nat) : Int) (96 : Int)) == (0 : Int)) = Bool.true)) :
    ∃ ps, runF Try.prog D0 gw1 200 Try.f22 [.agg (msgP kd ep fr wh tp rd bd)] [.is false, .is false, .is false, .is false, .is false, .is false, .is false, .is true, .is false, .is false, .is true, .is true, .keep, .keep, .keep] = some ((Go.Abs.AV.v (Go.Abs.A0.one (Go.Abs.Part.bool Bool.false (decide (((1 : Int) ≤ (Go.IntKind.wrap Go.IntKind.i64 (Int.tdiv (((List.length bd) : Nat) : Int) (96 : Int)))) ∧ ((Go.IntKind.wrap Go.IntKind.i64 (Int.tdiv (((List.length bd) : Nat) : Int) (96 : Int))) ≤ (8 : Int))))))), ps) ∧ AllQ ps := ⟨_, right_o_8b_r kd ep fr wh tp rd bd, AllP.all ⟨h1, h2, h3, h4, h5, h6, h7, h8, h9, h10, h11, h12, (show ((96 : Int) ≠ (0 : Int)) from by decide)⟩⟩

theorem right_o_9_r (kd ep fr wh tp rd : Int) (bd : List Int) : runF Try.prog D0 gw1 200 Try.f22 [.agg (msgP kd ep fr wh tp rd bd)] [.is false, .is false, .is false, .is false, .is false, .is false, .is false, .is true, .is false, .is false, .is false] =
    some ((Go.Abs.AV.v (Go.Abs.A0.one (Go.Abs.Part.bool Bool.true Bool.false))), [((kd == (1 : Int)) = Bool.false), ((kd == (2 : Int)) = Bool.false), ((kd == (3 : Int)) = Bool.false), ((kd == (4 : Int)) = Bool.false), ((kd == (5 : Int)) = Bool.false), ((wh != (0 : Int)) = Bool.false), ((tp != (0 : Int)) = Bool.false), ((decide (((1 : Int) ≤ rd) ∧ (rd ≤ (1099511627776 : Int)))) = Bool.true), ((kd == (6 : Int)) = Bool.false), ((kd == (7 : Int)) = Bool.false), ((kd == (8 : Int)) = Bool.false)]) := by kernel_rfl
theorem right_o_9 (kd ep fr wh tp rd : Int) (bd : List Int)
    (h1 : ((kd == (1 : Int)) = Bool.false))
    (h2 : ((kd == (2 : Int)) = Bool.false))
    (h3 : ((kd == (3 : Int)) = Bool.false))
    (h4 : ((kd == (4 : Int)) = Bool.false))
    (h5 : ((kd == (5 : Int)) = Bool.false))
    (h6 : ((wh != (0 : Int)) = Bool.false))
    (h7 : ((tp != (0 : Int)) = Bool.false))
    (h8 : ((decide (((1 : Int) ≤ rd) ∧ (rd ≤ (1099511627776 : Int)))) = Bool.true))
    (h9 : ((kd == (6 : Int)) = Bool.false))
    (h10 : ((kd == (7 : Int)) = Bool.false))
    (h11 : ((kd == (8 : Int)) = Bool.false)) :
    ∃ ps, runF Try.prog D0 gw1 200 Try.f22 [.agg (msgP kd ep fr wh tp rd bd)] [.is false, .is false, .is false, .is false, .is false, .is false, .is false, .is true, .is false, .is false, .is false] = some ((Go.Abs.AV.v (Go.Abs.A0.one (Go.Abs.Part.bool Bool.true Bool.false))), ps) ∧ AllQ ps := ⟨_, right_o_9_r kd ep fr wh tp rd bd, AllP.all ⟨h1, h2, h3, h4, h5, h6, h7, h8, h9, h10, h11⟩⟩

def bytesP : Part D0.τ → Option (List Int)
  | .words .u8 l => some l
  | .nil => some []
  | _ => none

theorem bytesP_part {E : Env} {p : Part D0.τ} {l : List Int} {cs : List Value} (h : bytesP p = some l) (hv : PartRel D0 E p cs) : PartRel D0 E (.words .u8 l) cs := by
  unfold bytesP at h
  split at h
  · cases h
    exact hv
  · cases h
    exact ⟨_, hv, none, 0, rfl, Nat.le_refl _, Nat.zero_le _, fun _ => rfl, fun i hi => by simp at hi⟩
  · cases h

structure Msg where
  kd : Int
  ep : Int
  fr : Int
  wh : Int
  tp : Int
  rd : Int
  bd : List Int

def msgOf : List (Part D0.τ) → Option Msg
  | [.int .i64 _ kd, .int .i64 _ ep, .int .i64 _ fr, .int .i64 _ wh, .int .i64 _ tp, .int .i64 _ rd, p] => (bytesP p).map fun bd => ⟨kd, ep, fr, wh, tp, rd, bd⟩
  | _ => none

def Msg.P (m : Msg) : List (Part D0.τ) := msgP m.kd m.ep m.fr m.wh m.tp m.rd m.bd

theorem msgOf_rel {E : Env} {ps : List (Part D0.τ)} {m : Msg} {v : Value} (h : msgOf ps = some m) (hv : A0Rel D0 E (.agg ps) v) : A0Rel D0 E (.agg m.P) v := by
  unfold msgOf at h
  split at h
  · rename_i p
    obtain ⟨bd, hb, rfl⟩ := Option.map_eq_some_iff.1 h
    obtain ⟨cs, e, a1, a2, e1, r1, b1, b2, e2, r2, c1, c2, e3, r3, d1, d2, e4, r4, f1, f2, e5, r5, g1, g2, e6, r6, i1, i2, e7, r7, r8⟩ := hv
    exact ⟨cs, e, a1, a2, e1, r1, b1, b2, e2, r2, c1, c2, e3, r3, d1, d2, e4, r4, f1, f2, e5, r5, g1, g2, e6, r6, i1, i2, e7, bytesP_part hb r7, r8⟩
  · cases h

def Msg.Rt (m : Msg) : Prop := Go.Num.Rt m.kd m.fr m.wh m.tp m.rd m.bd.length
instance (m : Msg) : Decidable m.Rt := inferInstanceAs (Decidable (Go.Num.Rt ..))

def rightD : FnD D0
  | [.agg p] => match msgOf p with
    | some m => some (.v (.one (.bool false (decide m.Rt))), [m.bd.length ≤ 9223372036854775807])
    | none => none
  | _ => none

theorem wrap_i64 {x : Int} (h1 : -9223372036854775808 ≤ x) (h2 : x ≤ 9223372036854775807) : IntKind.wrap .i64 x = x := by
  rw [IntKind.wrap_i64]
  omega
theorem ne_of_beq_false {a b : Int} (h : (a == b) = false) : a ≠ b := beq_eq_false_iff_ne.1 h
theorem bne_t {a b : Int} (h : (a != b) = true) : a ≠ b := bne_iff_ne.1 h
theorem bne_f {a b : Int} (h : (a != b) = false) : a = b := by
  by_cases e : a = b
  · exact e
  · rw [bne_iff_ne.2 e] at h
    cases h
theorem tmod96 (l : List Int) : Int.tmod ((l.length : Nat) : Int) 96 = ((l.length % 96 : Nat) : Int) := by
  rw [Int.tmod_eq_emod_of_nonneg (by omega)]
  rfl
theorem tdiv96 (l : List Int) (h : l.length ≤ 9223372036854775807) : IntKind.wrap .i64 (Int.tdiv ((l.length : Nat) : Int) 96) = ((l.length / 96 : Nat) : Int) := by
  rw [Int.tdiv_eq_ediv_of_nonneg (by omega)]
  exact wrap_i64 (by omega) (by omega)

theorem right_ok : FnOK Try.prog D0 22 rightD := by
  refine fnOK_of gw1_ok mixed Try.func22 (enters_of Try.func22 (by kernel_rfl) rfl) ?_
  intro xs r ps h hps
  unfold rightD at h
  split at h
  · split at h
    · rename_i m hm
      simp only [Option.some.injEq, Prod.mk.injEq] at h
      obtain ⟨rfl, rfl⟩ := h
      obtain ⟨kd, ep, fr, wh, tp, rd, bd⟩ := m
      have hlen : bd.length ≤ 9223372036854775807 := hps _ (List.mem_cons_self ..)
      have fin : ∀ {ds r qs b}, runF Try.prog D0 gw1 200 Try.f22 [.agg (msgP kd ep fr wh tp rd bd)] ds = some (.v (.one (.bool r b)), qs) → AllQ qs → b = decide (Rt kd fr wh tp rd bd.length) →
          ∃ xs' fuel ds r' qs, (∀ w vs, A0sRel D0 (cenv w) [.agg _] vs → A0sRel D0 (cenv w) xs' vs) ∧ runF Try.prog D0 gw1 fuel Try.f22 xs' ds = some (r', qs) ∧ AllQ qs ∧ ∀ E v, AVRel D0 E r' v → AVRel D0 E (.v (.one (.bool false (decide (Rt kd fr wh tp rd bd.length))))) v :=
        fun h1 h2 h3 => ⟨_, 200, _, _, _, fun w vs h => args1 (fun v hv => msgOf_rel hm hv) h, h1, h2, fun E v hv => one_bool h3 hv⟩
      cases ckd1 : (kd == 1)
      · have pkd1 := ne_of_beq_false ckd1
        cases ckd2 : (kd == 2)
        · have pkd2 := ne_of_beq_false ckd2
          cases ckd3 : (kd == 3)
          · have pkd3 := ne_of_beq_false ckd3
            cases ckd4 : (kd == 4)
            · have pkd4 := ne_of_beq_false ckd4
              cases ckd5 : (kd == 5)
              · have pkd5 := ne_of_beq_false ckd5
                cases cwn : (wh != 0)
                · have pwn := bne_f cwn
                  cases ctn : (tp != 0)
                  · have ptn := bne_f ctn
                    cases cri : (decide ((1 ≤ rd) ∧ (rd ≤ 1099511627776)))
                    · have pri := of_decide_eq_false cri
                      obtain ⟨ps, h1, h2⟩ := right_o_r kd ep fr wh tp rd bd ckd1 ckd2 ckd3 ckd4 ckd5 cwn ctn cri
                      refine fin h1 h2 ?_
                      exact (decide_eq_false (by unfold Rt; omega)).symm
                    · have pri := of_decide_eq_true cri
                      cases ckd6 : (kd == 6)
                      · have pkd6 := ne_of_beq_false ckd6
                        cases ckd7 : (kd == 7)
                        · have pkd7 := ne_of_beq_false ckd7
                          cases ckd8 : (kd == 8)
                          · have pkd8 := ne_of_beq_false ckd8
                            obtain ⟨ps, h1, h2⟩ := right_o_9 kd ep fr wh tp rd bd ckd1 ckd2 ckd3 ckd4 ckd5 cwn ctn cri ckd6 ckd7 ckd8
                            refine fin h1 h2 ?_
                            exact (decide_eq_false (by unfold Rt; omega)).symm
                          · have pkd8 := eq_of_beq ckd8
                            cases cm96 : ((Int.tmod ((List.length bd : Nat) : Int) 96) == 0)
                            · have pm96 := ne_of_beq_false cm96
                              obtain ⟨ps, h1, h2⟩ := right_o_8a kd ep fr wh tp rd bd ckd1 ckd2 ckd3 ckd4 ckd5 cwn ctn cri ckd6 ckd7 ckd8 cm96
                              refine fin h1 h2 ?_
                              rw [tmod96 bd] at pm96
                              exact (decide_eq_false (by unfold Rt; omega)).symm
                            · have pm96 := eq_of_beq cm96
                              obtain ⟨ps, h1, h2⟩ := right_o_8b kd ep fr wh tp rd bd ckd1 ckd2 ckd3 ckd4 ckd5 cwn ctn cri ckd6 ckd7 ckd8 cm96
                              refine fin h1 h2 ?_
                              refine decide_eq_decide.2 ?_
                              rw [tdiv96 bd hlen]
                              rw [tmod96 bd] at pm96
                              unfold Rt
                              omega
                        · have pkd7 := eq_of_beq ckd7
                          obtain ⟨ps, h1, h2⟩ := right_o_7 kd ep fr wh tp rd bd ckd1 ckd2 ckd3 ckd4 ckd5 cwn ctn cri ckd6 ckd7
                          refine fin h1 h2 ?_
                          show decide (((List.length bd : Nat) : Int) = 0) = _
                          exact decide_eq_decide.2 (by unfold Rt; omega)
                      · have pkd6 := eq_of_beq ckd6
                        obtain ⟨ps, h1, h2⟩ := right_o_6 kd ep fr wh tp rd bd ckd1 ckd2 ckd3 ckd4 ckd5 cwn ctn cri ckd6
                        refine fin h1 h2 ?_
                        show decide (((List.length bd : Nat) : Int) = 96) = _
                        exact decide_eq_decide.2 (by unfold Rt; omega)
                  · have ptn := bne_t ctn
                    obtain ⟨ps, h1, h2⟩ := right_o_t kd ep fr wh tp rd bd ckd1 ckd2 ckd3 ckd4 ckd5 cwn ctn
                    refine fin h1 h2 ?_
                    exact (decide_eq_false (by unfold Rt; omega)).symm
                · have pwn := bne_t cwn
                  obtain ⟨ps, h1, h2⟩ := right_o_w kd ep fr wh tp rd bd ckd1 ckd2 ckd3 ckd4 ckd5 cwn
                  refine fin h1 h2 ?_
                  exact (decide_eq_false (by unfold Rt; omega)).symm
              · have pkd5 := eq_of_beq ckd5
                cases cw0 : (wh == 0)
                · have pw0 := ne_of_beq_false cw0
                  obtain ⟨ps, h1, h2⟩ := right_k5_c0 kd ep fr wh tp rd bd ckd1 ckd2 ckd3 ckd4 ckd5 cw0
                  refine fin h1 h2 ?_
                  exact (decide_eq_false (by unfold Rt; omega)).symm
                · have pw0 := eq_of_beq cw0
                  cases ct0 : (tp == 0)
                  · have pt0 := ne_of_beq_false ct0
                    obtain ⟨ps, h1, h2⟩ := right_k5_c1 kd ep fr wh tp rd bd ckd1 ckd2 ckd3 ckd4 ckd5 cw0 ct0
                    refine fin h1 h2 ?_
                    exact (decide_eq_false (by unfold Rt; omega)).symm
                  · have pt0 := eq_of_beq ct0
                    cases cr0 : (rd == 0)
                    · have pr0 := ne_of_beq_false cr0
                      obtain ⟨ps, h1, h2⟩ := right_k5_c2 kd ep fr wh tp rd bd ckd1 ckd2 ckd3 ckd4 ckd5 cw0 ct0 cr0
                      refine fin h1 h2 ?_
                      exact (decide_eq_false (by unfold Rt; omega)).symm
                    · have pr0 := eq_of_beq cr0
                      obtain ⟨ps, h1, h2⟩ := right_k5_c3 kd ep fr wh tp rd bd ckd1 ckd2 ckd3 ckd4 ckd5 cw0 ct0 cr0
                      refine fin h1 h2 ?_
                      show decide (((List.length bd : Nat) : Int) = 32) = _
                      exact decide_eq_decide.2 (by unfold Rt; omega)
            · have pkd4 := eq_of_beq ckd4
              cases cw0 : (wh == 0)
              · have pw0 := ne_of_beq_false cw0
                obtain ⟨ps, h1, h2⟩ := right_k4_c0 kd ep fr wh tp rd bd ckd1 ckd2 ckd3 ckd4 cw0
                refine fin h1 h2 ?_
                exact (decide_eq_false (by unfold Rt; omega)).symm
              · have pw0 := eq_of_beq cw0
                cases ct0 : (tp == 0)
                · have pt0 := ne_of_beq_false ct0
                  obtain ⟨ps, h1, h2⟩ := right_k4_c1 kd ep fr wh tp rd bd ckd1 ckd2 ckd3 ckd4 cw0 ct0
                  refine fin h1 h2 ?_
                  exact (decide_eq_false (by unfold Rt; omega)).symm
                · have pt0 := eq_of_beq ct0
                  cases cr0 : (rd == 0)
                  · have pr0 := ne_of_beq_false cr0
                    obtain ⟨ps, h1, h2⟩ := right_k4_c2 kd ep fr wh tp rd bd ckd1 ckd2 ckd3 ckd4 cw0 ct0 cr0
                    refine fin h1 h2 ?_
                    exact (decide_eq_false (by unfold Rt; omega)).symm
                  · have pr0 := eq_of_beq cr0
                    obtain ⟨ps, h1, h2⟩ := right_k4_c3 kd ep fr wh tp rd bd ckd1 ckd2 ckd3 ckd4 cw0 ct0 cr0
                    refine fin h1 h2 ?_
                    show decide (((List.length bd : Nat) : Int) = 32) = _
                    exact decide_eq_decide.2 (by unfold Rt; omega)
          · have pkd3 := eq_of_beq ckd3
            cases cwi : (decide ((1 ≤ wh) ∧ (wh ≤ 9)))
            · have pwi := of_decide_eq_false cwi
              obtain ⟨ps, h1, h2⟩ := right_k3_c0 kd ep fr wh tp rd bd ckd1 ckd2 ckd3 cwi
              refine fin h1 h2 ?_
              exact (decide_eq_false (by unfold Rt; omega)).symm
            · have pwi := of_decide_eq_true cwi
              cases cti : (decide ((1 ≤ tp) ∧ (tp ≤ 3)))
              · have pti := of_decide_eq_false cti
                obtain ⟨ps, h1, h2⟩ := right_k3_c1 kd ep fr wh tp rd bd ckd1 ckd2 ckd3 cwi cti
                refine fin h1 h2 ?_
                exact (decide_eq_false (by unfold Rt; omega)).symm
              · have pti := of_decide_eq_true cti
                cases cr0 : (rd == 0)
                · have pr0 := ne_of_beq_false cr0
                  obtain ⟨ps, h1, h2⟩ := right_k3_c2 kd ep fr wh tp rd bd ckd1 ckd2 ckd3 cwi cti cr0
                  refine fin h1 h2 ?_
                  exact (decide_eq_false (by unfold Rt; omega)).symm
                · have pr0 := eq_of_beq cr0
                  obtain ⟨ps, h1, h2⟩ := right_k3_c3 kd ep fr wh tp rd bd ckd1 ckd2 ckd3 cwi cti cr0
                  refine fin h1 h2 ?_
                  exact decide_eq_decide.2 (by unfold Rt; omega)
        · have pkd2 := eq_of_beq ckd2
          cases cwi : (decide ((1 ≤ wh) ∧ (wh ≤ 9)))
          · have pwi := of_decide_eq_false cwi
            obtain ⟨ps, h1, h2⟩ := right_k2_c0 kd ep fr wh tp rd bd ckd1 ckd2 cwi
            refine fin h1 h2 ?_
            exact (decide_eq_false (by unfold Rt; omega)).symm
          · have pwi := of_decide_eq_true cwi
            cases cti : (decide ((1 ≤ tp) ∧ (tp ≤ 3)))
            · have pti := of_decide_eq_false cti
              obtain ⟨ps, h1, h2⟩ := right_k2_c1 kd ep fr wh tp rd bd ckd1 ckd2 cwi cti
              refine fin h1 h2 ?_
              exact (decide_eq_false (by unfold Rt; omega)).symm
            · have pti := of_decide_eq_true cti
              cases cr0 : (rd == 0)
              · have pr0 := ne_of_beq_false cr0
                obtain ⟨ps, h1, h2⟩ := right_k2_c2 kd ep fr wh tp rd bd ckd1 ckd2 cwi cti cr0
                refine fin h1 h2 ?_
                exact (decide_eq_false (by unfold Rt; omega)).symm
              · have pr0 := eq_of_beq cr0
                obtain ⟨ps, h1, h2⟩ := right_k2_c3 kd ep fr wh tp rd bd ckd1 ckd2 cwi cti cr0
                refine fin h1 h2 ?_
                exact decide_eq_decide.2 (by unfold Rt; omega)
      · have pkd1 := eq_of_beq ckd1
        cases cne : (wh != fr)
        · have pne := bne_f cne
          cases cwi : (decide ((1 ≤ wh) ∧ (wh ≤ 9)))
          · have pwi := of_decide_eq_false cwi
            obtain ⟨ps, h1, h2⟩ := right_k1_c0 kd ep fr wh tp rd bd ckd1 cne cwi
            refine fin h1 h2 ?_
            exact (decide_eq_false (by unfold Rt; omega)).symm
          · have pwi := of_decide_eq_true cwi
            cases cti : (decide ((1 ≤ tp) ∧ (tp ≤ 3)))
            · have pti := of_decide_eq_false cti
              obtain ⟨ps, h1, h2⟩ := right_k1_c1 kd ep fr wh tp rd bd ckd1 cne cwi cti
              refine fin h1 h2 ?_
              exact (decide_eq_false (by unfold Rt; omega)).symm
            · have pti := of_decide_eq_true cti
              cases cr0 : (rd == 0)
              · have pr0 := ne_of_beq_false cr0
                obtain ⟨ps, h1, h2⟩ := right_k1_c2 kd ep fr wh tp rd bd ckd1 cne cwi cti cr0
                refine fin h1 h2 ?_
                exact (decide_eq_false (by unfold Rt; omega)).symm
              · have pr0 := eq_of_beq cr0
                obtain ⟨ps, h1, h2⟩ := right_k1_c3 kd ep fr wh tp rd bd ckd1 cne cwi cti cr0
                refine fin h1 h2 ?_
                exact decide_eq_decide.2 (by unfold Rt; omega)
        · have pne := bne_t cne
          obtain ⟨ps, h1, h2⟩ := right_k1_ne kd ep fr wh tp rd bd ckd1 cne
          refine fin h1 h2 ?_
          exact (decide_eq_false (by unfold Rt; omega)).symm
    · cases h
  · cases h

end Go.Num

/- The tower's numbers: powers. -/
import Derived.Test.YtbgcfmmkbocpoaaTw6
import Derived.Test.YtbgcfmmkbocpoaaRef2
namespace Go.Num
open Go.Abs Go.Proofs Go.Shelf Go.Alg

def gam24 : Gam FD := (27, c1D s12 s12 inv12) :: (14, k0D s12 (1 : K12)) :: gam23
theorem gam24_ok : GamOK Try.prog FD gam24 := gam_cons inv12_ok (gam_cons one12_ok gam23_ok)

def z72 : List (Part FD.τ) := List.replicate 72 (.int .u64 true 0)

def pwSn (x y : K12) (l : List Int) (g : Bool) (j b i : Int) : Sn FD.τ where
  slots := [(2, .v (.one (.ref 0 0))), (4, .v (.one (.ref 1 0))), (5, .v (.one (.ref 2 0))), (6, .v (.one (.bool false g))), (8, .v (.one (.int .u8 false b))), (11, .v (.one (.words .u8 l))), (12, .v (.one (.int .i64 false l.length))), (13, .v (.one (.int .i64 false j))), (17, .v (.one (.int .i64 false i)))]
  boxes := [(0, .fixed 40 [.tag (.e12 x)]), (1, .fixed 40 z72), (2, .fixed 40 [.tag (.e12 y)])]
  nt := 35
def pwOut (x y : K12) (l : List Int) (g : Bool) (j : Int) : Sn FD.τ where
  slots := [(2, .v (.one (.ref 0 0))), (4, .v (.one (.ref 1 0))), (5, .v (.one (.ref 2 0))), (6, .v (.one (.bool false g))), (11, .v (.one (.words .u8 l))), (12, .v (.one (.int .i64 false l.length))), (13, .v (.one (.int .i64 false j)))]
  boxes := [(0, .fixed 40 [.tag (.e12 x)]), (1, .fixed 40 z72), (2, .fixed 40 [.tag (.e12 y)])]
  nt := 35

theorem pw_in_r (x y y' : K12) (l : List Int) (g g' : Bool) (j b i : Int) : stepPs Try.prog FD gam24 100 (bodyOf2 Try.f12) 100 (pwSn x y l g j b i).st [.is true, .is false, .is false] .normal (pwSn x y' l g' j b (i + 1)) =
    some [((decide (i < (8 : Int))) = Bool.true), (g = Bool.false), (Go.Abs.InI64 ((7 : Int) - i)), ((0 : Int) ≤ ((7 : Int) - i)), (((Go.Abs.bitsOf Go.BinOp.and Go.IntKind.u8 (Int.fdiv b ((2 : Int) ^ (min (Int.toNat ((7 : Int) - i)) (8 : Nat)))) (1 : Int)) == (1 : Int)) = Bool.false), (Go.Abs.InI64 (i + (1 : Int))), (g = g'), (b = b), (l = l), ((((List.length l) : Nat) : Int) = (((List.length l) : Nat) : Int)), (j = j), ((i + (1 : Int)) = (i + (1 : Int))), (Go.Abs.TagLe Go.Num.FD (Go.Num.T.e12 x) (Go.Num.T.e12 x)), (Go.Abs.TagLe Go.Num.FD (Go.Num.T.e12 y) (Go.Num.T.e12 y'))] := by kernel_rfl
theorem pw_in (x y y' : K12) (l : List Int) (g g' : Bool) (j b i : Int)
    (h1 : ((decide (i < (8 : Int))) = Bool.true))
    (h2 : (g = Bool.false))
    (h3 : (Go.Abs.InI64 ((7 : Int) - i)))
    (h4 : ((0 : Int) ≤ ((7 : Int) - i)))
    (h5 : (((Go.Abs.bitsOf Go.BinOp.and Go.IntKind.u8 (Int.fdiv b ((2 : Int) ^ (min (Int.toNat ((7 : Int) - i)) (8 : Nat)))) (1 : Int)) == (1 : Int)) = Bool.false))
    (h6 : (Go.Abs.InI64 (i + (1 : Int))))
    (h7 : (g = g'))
    (h8 : (Go.Abs.TagLe Go.Num.FD (Go.Num.T.e12 y) (Go.Num.T.e12 y'))) :
    ∃ ps, stepPs Try.prog FD gam24 100 (bodyOf2 Try.f12) 100 (pwSn x y l g j b i).st [.is true, .is false, .is false] .normal (pwSn x y' l g' j b (i + 1)) = some ps ∧ AllQ ps := ⟨_, pw_in_r x y y' l g g' j b i, AllP.all ⟨h1, h2, h3, h4, h5, h6, h7, rfl, rfl, rfl, rfl, rfl, le_refl _, h8⟩⟩

theorem pw_in1_r (x y y' : K12) (l : List Int) (g g' : Bool) (j b i : Int) : stepPs Try.prog FD gam24 100 (bodyOf2 Try.f12) 100 (pwSn x y l g j b i).st [.is true, .is false, .is true] .normal (pwSn x y' l g' j b (i + 1)) =
    some [((decide (i < (8 : Int))) = Bool.true), (g = Bool.false), (Go.Abs.InI64 ((7 : Int) - i)), ((0 : Int) ≤ ((7 : Int) - i)), (((Go.Abs.bitsOf Go.BinOp.and Go.IntKind.u8 (Int.fdiv b ((2 : Int) ^ (min (Int.toNat ((7 : Int) - i)) (8 : Nat)))) (1 : Int)) == (1 : Int)) = Bool.true), (Go.Abs.InI64 (i + (1 : Int))), (Bool.true = g'), (b = b), (l = l), ((((List.length l) : Nat) : Int) = (((List.length l) : Nat) : Int)), (j = j), ((i + (1 : Int)) = (i + (1 : Int))), (Go.Abs.TagLe Go.Num.FD (Go.Num.T.e12 x) (Go.Num.T.e12 x)), (Go.Abs.TagLe Go.Num.FD (Go.Num.T.e12 (Go.Num.mul12 y x)) (Go.Num.T.e12 y'))] := by kernel_rfl
theorem pw_in1 (x y y' : K12) (l : List Int) (g g' : Bool) (j b i : Int)
    (h1 : ((decide (i < (8 : Int))) = Bool.true))
    (h2 : (g = Bool.false))
    (h3 : (Go.Abs.InI64 ((7 : Int) - i)))
    (h4 : ((0 : Int) ≤ ((7 : Int) - i)))
    (h5 : (((Go.Abs.bitsOf Go.BinOp.and Go.IntKind.u8 (Int.fdiv b ((2 : Int) ^ (min (Int.toNat ((7 : Int) - i)) (8 : Nat)))) (1 : Int)) == (1 : Int)) = Bool.true))
    (h6 : (Go.Abs.InI64 (i + (1 : Int))))
    (h7 : (Bool.true = g'))
    (h8 : (Go.Abs.TagLe Go.Num.FD (Go.Num.T.e12 (Go.Num.mul12 y x)) (Go.Num.T.e12 y'))) :
    ∃ ps, stepPs Try.prog FD gam24 100 (bodyOf2 Try.f12) 100 (pwSn x y l g j b i).st [.is true, .is false, .is true] .normal (pwSn x y' l g' j b (i + 1)) = some ps ∧ AllQ ps := ⟨_, pw_in1_r x y y' l g g' j b i, AllP.all ⟨h1, h2, h3, h4, h5, h6, h7, rfl, rfl, rfl, rfl, rfl, le_refl _, h8⟩⟩

theorem pw_in2_r (x y y' : K12) (l : List Int) (g g' : Bool) (j b i : Int) : stepPs Try.prog FD gam24 100 (bodyOf2 Try.f12) 100 (pwSn x y l g j b i).st [.is true, .is true, .is false] .normal (pwSn x y' l g' j b (i + 1)) =
    some [((decide (i < (8 : Int))) = Bool.true), (g = Bool.true), (Go.Abs.InI64 ((7 : Int) - i)), ((0 : Int) ≤ ((7 : Int) - i)), (((Go.Abs.bitsOf Go.BinOp.and Go.IntKind.u8 (Int.fdiv b ((2 : Int) ^ (min (Int.toNat ((7 : Int) - i)) (8 : Nat)))) (1 : Int)) == (1 : Int)) = Bool.false), (Go.Abs.InI64 (i + (1 : Int))), (g = g'), (b = b), (l = l), ((((List.length l) : Nat) : Int) = (((List.length l) : Nat) : Int)), (j = j), ((i + (1 : Int)) = (i + (1 : Int))), (Go.Abs.TagLe Go.Num.FD (Go.Num.T.e12 x) (Go.Num.T.e12 x)), (Go.Abs.TagLe Go.Num.FD (Go.Num.T.e12 (Go.Num.sq12 y)) (Go.Num.T.e12 y'))] := by kernel_rfl
theorem pw_in2 (x y y' : K12) (l : List Int) (g g' : Bool) (j b i : Int)
    (h1 : ((decide (i < (8 : Int))) = Bool.true))
    (h2 : (g = Bool.true))
    (h3 : (Go.Abs.InI64 ((7 : Int) - i)))
    (h4 : ((0 : Int) ≤ ((7 : Int) - i)))
    (h5 : (((Go.Abs.bitsOf Go.BinOp.and Go.IntKind.u8 (Int.fdiv b ((2 : Int) ^ (min (Int.toNat ((7 : Int) - i)) (8 : Nat)))) (1 : Int)) == (1 : Int)) = Bool.false))
    (h6 : (Go.Abs.InI64 (i + (1 : Int))))
    (h7 : (g = g'))
    (h8 : (Go.Abs.TagLe Go.Num.FD (Go.Num.T.e12 (Go.Num.sq12 y)) (Go.Num.T.e12 y'))) :
    ∃ ps, stepPs Try.prog FD gam24 100 (bodyOf2 Try.f12) 100 (pwSn x y l g j b i).st [.is true, .is true, .is false] .normal (pwSn x y' l g' j b (i + 1)) = some ps ∧ AllQ ps := ⟨_, pw_in2_r x y y' l g g' j b i, AllP.all ⟨h1, h2, h3, h4, h5, h6, h7, rfl, rfl, rfl, rfl, rfl, le_refl _, h8⟩⟩

theorem pw_in3_r (x y y' : K12) (l : List Int) (g g' : Bool) (j b i : Int) : stepPs Try.prog FD gam24 100 (bodyOf2 Try.f12) 100 (pwSn x y l g j b i).st [.is true, .is true, .is true] .normal (pwSn x y' l g' j b (i + 1)) =
    some [((decide (i < (8 : Int))) = Bool.true), (g = Bool.true), (Go.Abs.InI64 ((7 : Int) - i)), ((0 : Int) ≤ ((7 : Int) - i)), (((Go.Abs.bitsOf Go.BinOp.and Go.IntKind.u8 (Int.fdiv b ((2 : Int) ^ (min (Int.toNat ((7 : Int) - i)) (8 : Nat)))) (1 : Int)) == (1 : Int)) = Bool.true), (Go.Abs.InI64 (i + (1 : Int))), (Bool.true = g'), (b = b), (l = l), ((((List.length l) : Nat) : Int) = (((List.length l) : Nat) : Int)), (j = j), ((i + (1 : Int)) = (i + (1 : Int))), (Go.Abs.TagLe Go.Num.FD (Go.Num.T.e12 x) (Go.Num.T.e12 x)), (Go.Abs.TagLe Go.Num.FD (Go.Num.T.e12 (Go.Num.mul12 (Go.Num.sq12 y) x)) (Go.Num.T.e12 y'))] := by kernel_rfl
theorem pw_in3 (x y y' : K12) (l : List Int) (g g' : Bool) (j b i : Int)
    (h1 : ((decide (i < (8 : Int))) = Bool.true))
    (h2 : (g = Bool.true))
    (h3 : (Go.Abs.InI64 ((7 : Int) - i)))
    (h4 : ((0 : Int) ≤ ((7 : Int) - i)))
    (h5 : (((Go.Abs.bitsOf Go.BinOp.and Go.IntKind.u8 (Int.fdiv b ((2 : Int) ^ (min (Int.toNat ((7 : Int) - i)) (8 : Nat)))) (1 : Int)) == (1 : Int)) = Bool.true))
    (h6 : (Go.Abs.InI64 (i + (1 : Int))))
    (h7 : (Bool.true = g'))
    (h8 : (Go.Abs.TagLe Go.Num.FD (Go.Num.T.e12 (Go.Num.mul12 (Go.Num.sq12 y) x)) (Go.Num.T.e12 y'))) :
    ∃ ps, stepPs Try.prog FD gam24 100 (bodyOf2 Try.f12) 100 (pwSn x y l g j b i).st [.is true, .is true, .is true] .normal (pwSn x y' l g' j b (i + 1)) = some ps ∧ AllQ ps := ⟨_, pw_in3_r x y y' l g g' j b i, AllP.all ⟨h1, h2, h3, h4, h5, h6, h7, rfl, rfl, rfl, rfl, rfl, le_refl _, h8⟩⟩

theorem pw_inExit_r (x y : K12) (l : List Int) (g : Bool) (j b i : Int) : stepPs Try.prog FD gam24 100 (bodyOf2 Try.f12) 100 (pwSn x y l g j b i).st [.is false] (.exit 2) (pwSn x y l g j b i) =
    some [((decide (i < (8 : Int))) = Bool.false), (g = g), (b = b), (l = l), ((((List.length l) : Nat) : Int) = (((List.length l) : Nat) : Int)), (j = j), (i = i), (Go.Abs.TagLe Go.Num.FD (Go.Num.T.e12 x) (Go.Num.T.e12 x)), (Go.Abs.TagLe Go.Num.FD (Go.Num.T.e12 y) (Go.Num.T.e12 y))] := by kernel_rfl
theorem pw_inExit (x y : K12) (l : List Int) (g : Bool) (j b i : Int)
    (h1 : ((decide (i < (8 : Int))) = Bool.false)) :
    ∃ ps, stepPs Try.prog FD gam24 100 (bodyOf2 Try.f12) 100 (pwSn x y l g j b i).st [.is false] (.exit 2) (pwSn x y l g j b i) = some ps ∧ AllQ ps := ⟨_, pw_inExit_r x y l g j b i, AllP.all ⟨h1, rfl, rfl, rfl, rfl, rfl, rfl, le_refl _, le_refl _⟩⟩

theorem pw_round_r (x y y' : K12) (l : List Int) (g g' : Bool) (j b : Int) : stepPs Try.prog FD gam24 100 (bodyOf Try.f12) 100 (pwOut x y l g j).st [.is true, .loop (loopL FD (pwSn x y l g j b 0) (.exit 2) (pwSn x y' l g' j b 8))] .normal (pwOut x y' l g' (j + 1)) =
    some [((decide (j < (((List.length l) : Nat) : Int))) = Bool.true), ((0 : Int) ≤ j), (j < (((List.length l) : Nat) : Int)), SumOK Try.prog FD (bodyOf2 Try.f12) (loopL FD (pwSn x y l g j b 0) (.exit 2) (pwSn x y' l g' j b 8)), (g = g), ((List.getD l (Int.toNat j) (0 : Int)) = b), (l = l), ((((List.length l) : Nat) : Int) = (((List.length l) : Nat) : Int)), (j = j), ((0 : Int) = (0 : Int)), (Go.Abs.TagLe Go.Num.FD (Go.Num.T.e12 x) (Go.Num.T.e12 x)), (Go.Abs.TagLe Go.Num.FD (Go.Num.T.e12 y) (Go.Num.T.e12 y)), (Go.Abs.InI64 (j + (1 : Int))), (g' = g'), (l = l), ((((List.length l) : Nat) : Int) = (((List.length l) : Nat) : Int)), ((j + (1 : Int)) = (j + (1 : Int))), (Go.Abs.TagLe Go.Num.FD (Go.Num.T.e12 x) (Go.Num.T.e12 x)), (Go.Abs.TagLe Go.Num.FD (Go.Num.T.e12 y') (Go.Num.T.e12 y'))] := by kernel_rfl
theorem pw_round (x y y' : K12) (l : List Int) (g g' : Bool) (j b : Int)
    (h1 : ((decide (j < (((List.length l) : Nat) : Int))) = Bool.true))
    (h2 : ((0 : Int) ≤ j))
    (h3 : (j < (((List.length l) : Nat) : Int)))
    (h4 : SumOK Try.prog FD (bodyOf2 Try.f12) (loopL FD (pwSn x y l g j b 0) (.exit 2) (pwSn x y' l g' j b 8)))
    (h5 : ((List.getD l (Int.toNat j) (0 : Int)) = b))
    (h6 : (Go.Abs.InI64 (j + (1 : Int)))) :
    ∃ ps, stepPs Try.prog FD gam24 100 (bodyOf Try.f12) 100 (pwOut x y l g j).st [.is true, .loop (loopL FD (pwSn x y l g j b 0) (.exit 2) (pwSn x y' l g' j b 8))] .normal (pwOut x y' l g' (j + 1)) = some ps ∧ AllQ ps := ⟨_, pw_round_r x y y' l g g' j b, AllP.all ⟨h1, h2, h3, h4, rfl, h5, rfl, rfl, rfl, rfl, le_refl _, le_refl _, h6, rfl, rfl, rfl, rfl, le_refl _, le_refl _⟩⟩

theorem pw_exit_r (x y : K12) (l : List Int) (g : Bool) (j : Int) : stepPs Try.prog FD gam24 100 (bodyOf Try.f12) 100 (pwOut x y l g j).st [.is false] (.exit 0) (pwOut x y l g j) =
    some [((decide (j < (((List.length l) : Nat) : Int))) = Bool.false), (g = g), (l = l), ((((List.length l) : Nat) : Int) = (((List.length l) : Nat) : Int)), (j = j), (Go.Abs.TagLe Go.Num.FD (Go.Num.T.e12 x) (Go.Num.T.e12 x)), (Go.Abs.TagLe Go.Num.FD (Go.Num.T.e12 y) (Go.Num.T.e12 y))] := by kernel_rfl
theorem pw_exit (x y : K12) (l : List Int) (g : Bool) (j : Int)
    (h1 : ((decide (j < (((List.length l) : Nat) : Int))) = Bool.false)) :
    ∃ ps, stepPs Try.prog FD gam24 100 (bodyOf Try.f12) 100 (pwOut x y l g j).st [.is false] (.exit 0) (pwOut x y l g j) = some ps ∧ AllQ ps := ⟨_, pw_exit_r x y l g j, AllP.all ⟨h1, rfl, rfl, rfl, rfl, le_refl _, le_refl _⟩⟩

theorem pw_run_r (x y : K12) (l : List Int) (g : Bool) (j : Int) : runF Try.prog FD gam24 100 Try.f12 [s12.arg x, .one (.words .u8 l)] [.loop (loopL FD (pwOut x 1 l false 0) (.exit 0) (pwOut x y l g j))] =
    some ((Go.Abs.AV.v (Go.Abs.A0.agg ((Go.Abs.Part.tag (Go.Num.T.e12 y)) :: ([] : List (Part FD.τ))))), [SumOK Try.prog FD (bodyOf Try.f12) (loopL FD (pwOut x 1 l false 0) (.exit 0) (pwOut x y l g j)), (Bool.false = Bool.false), (l = l), ((((List.length l) : Nat) : Int) = (((List.length l) : Nat) : Int)), ((0 : Int) = (0 : Int)), (Go.Abs.TagLe Go.Num.FD (Go.Num.T.e12 x) (Go.Num.T.e12 x)), (Go.Abs.TagLe Go.Num.FD (Go.Num.T.e12 (1 : K12)) (Go.Num.T.e12 (1 : K12)))]) := by kernel_rfl
theorem pw_run (x y : K12) (l : List Int) (g : Bool) (j : Int)
    (h1 : SumOK Try.prog FD (bodyOf Try.f12) (loopL FD (pwOut x 1 l false 0) (.exit 0) (pwOut x y l g j))) :
    ∃ ps, runF Try.prog FD gam24 100 Try.f12 [s12.arg x, .one (.words .u8 l)] [.loop (loopL FD (pwOut x 1 l false 0) (.exit 0) (pwOut x y l g j))] = some ((Go.Abs.AV.v (Go.Abs.A0.agg ((Go.Abs.Part.tag (Go.Num.T.e12 y)) :: ([] : List (Part FD.τ))))), ps) ∧ AllQ ps := ⟨_, pw_run_r x y l g j, AllP.all ⟨h1, rfl, rfl, rfl, rfl, le_refl _, le_refl _⟩⟩

/-- The bits taken so far: of K, and the first i of a byte's. -/
def qb (K b i : Nat) : Nat := K * 2 ^ i + b / 2 ^ (8 - i)

theorem qb_succ {K b i : Nat} (h : i < 8) : qb K b (i + 1) = 2 * qb K b i + b / 2 ^ (7 - i) % 2 := by
  unfold qb
  rw [show 8 - (i + 1) = 7 - i from by omega, show 8 - i = (7 - i) + 1 from by omega, Nat.pow_succ 2 (7 - i), ← Nat.div_div_eq_div_mul, Nat.pow_succ]
  have := Nat.div_add_mod (b / 2 ^ (7 - i)) 2
  have e : K * (2 ^ i * 2) = 2 * (K * 2 ^ i) := by rw [← Nat.mul_assoc, Nat.mul_comm]
  omega

theorem bit8 : ∀ b : Fin 256, ∀ i : Fin 8, ((bitsOf .and .u8 (Int.fdiv ((b.val : Nat) : Int) (2 ^ (min (Int.toNat (7 - ((i.val : Nat) : Int))) 8))) 1) == 1) = (b.val / 2 ^ (7 - i.val) % 2 == 1) := by decide +kernel

theorem pw_dbl (x : K12) (n : Nat) : sq12 (pw x n) = pw x (2 * n) := by
  rw [Nat.two_mul, pw_add]
  rfl

theorem le_e12 {x y : K12} (h : x = y) : TagLe FD (.e12 x) (.e12 y) := h ▸ le_refl _

theorem pw_in_loop (x : K12) (l : List Int) (j : Int) (K b : Nat) (hb : b < 256) :
    SumOK Try.prog FD (bodyOf2 Try.f12) (loopL FD (pwSn x (pw x (qb K b 0)) l (decide (qb K b 0 ≠ 0)) j b (0 : Nat)) (.exit 2) (pwSn x (pw x (qb K b 8)) l (decide (qb K b 8 ≠ 0)) j b (8 : Nat))) := by
  refine sum_loop gam24_ok mixed (fun i => pwSn x (pw x (qb K b i)) l (decide (qb K b i ≠ 0)) j b i) 8 rfl (fun i hi => ?_) ⟨100, 100, [.is false], pw_inExit x _ l _ j b _ (by decide)⟩
  have hd : decide ((i : Int) < 8) = true := decide_eq_true (by omega)
  have h1 : InI64 (7 - (i : Int)) := ⟨by omega, by omega⟩
  have h2 : (0 : Int) ≤ 7 - (i : Int) := by omega
  have h3 : InI64 ((i : Int) + 1) := ⟨by omega, by omega⟩
  have hbit := bit8 ⟨b, hb⟩ ⟨i, hi⟩
  simp only at hbit
  have hq := qb_succ (K := K) (b := b) hi
  have hcast : ((i + 1 : Nat) : Int) = (i : Int) + 1 := rfl
  generalize qb K b (i + 1) = n' at *
  generalize qb K b i = n at *
  by_cases hn : n = 0
  · have hg : decide (n ≠ 0) = false := by rw [hn]; rfl
    rcases Nat.mod_two_eq_zero_or_one (b / 2 ^ (7 - i)) with hm | hm
    · rw [hm] at hq hbit
      have e : n' = n := by omega
      rw [e]
      exact ⟨100, 100, [.is true, .is false, .is false], pw_in x _ _ l _ _ j b i hd hg h1 h2 hbit h3 rfl (le_refl _)⟩
    · rw [hm] at hq hbit
      have e : n' = n + 1 := by omega
      rw [e]
      exact ⟨100, 100, [.is true, .is false, .is true], pw_in1 x _ _ l _ _ j b i hd hg h1 h2 hbit h3 (decide_eq_true (by omega)).symm (le_refl _)⟩
  · have hg : decide (n ≠ 0) = true := decide_eq_true hn
    rcases Nat.mod_two_eq_zero_or_one (b / 2 ^ (7 - i)) with hm | hm
    · rw [hm] at hq hbit
      have e : n' = 2 * n := by omega
      rw [e]
      exact ⟨100, 100, [.is true, .is true, .is false], pw_in2 x _ _ l _ _ j b i hd hg h1 h2 hbit h3 (by rw [hg]; exact (decide_eq_true (by omega)).symm) (le_e12 (pw_dbl x n))⟩
    · rw [hm] at hq hbit
      have e : n' = 2 * n + 1 := by omega
      rw [e]
      refine ⟨100, 100, [.is true, .is true, .is true], pw_in3 x _ _ l _ _ j b i hd hg h1 h2 hbit h3 (decide_eq_true (by omega)).symm (le_e12 ?_)⟩
      rw [pw_dbl]
      rfl

/-- The number that bytes are. -/
def nb (l : List Int) : Nat := (be l).toNat

theorem be_succ {l : List Int} {j : Nat} (hj : j < l.length) : be (l.take (j + 1)) = be (l.take j) * 256 + l.getD j 0 := by
  rw [List.take_succ_eq_append_getElem hj, be_append]
  have e : l.getD j 0 = l[j] := by simp [List.getD, hj]
  rw [e]
  show be (List.take j l) * 256 ^ 1 + (l[j] * 256 ^ 0 + 0) = _
  rw [Int.pow_zero, Int.mul_one, Int.add_zero]
  rfl

theorem inB_getD {l : List Int} (h : InB l) (j : Nat) : 0 ≤ l.getD j 0 ∧ l.getD j 0 < 256 := by
  by_cases hj : j < l.length
  · have e : l.getD j 0 = l[j] := by simp [List.getD, hj]
    rw [e]
    exact h _ (List.getElem_mem hj)
  · have e : l.getD j 0 = 0 := by simp [List.getD, List.getElem?_eq_none (Nat.le_of_not_lt hj)]
    rw [e]
    decide

theorem inB_take {l : List Int} (h : InB l) (j : Nat) : InB (l.take j) := fun a ha => h a (List.mem_of_mem_take ha)

theorem pw_loop (x : K12) {l : List Int} (hb : InB l) (hl : l.length ≤ 9223372036854775806) :
    SumOK Try.prog FD (bodyOf Try.f12) (loopL FD (pwOut x (pw x (nb (l.take 0))) l (decide (nb (l.take 0) ≠ 0)) (0 : Nat)) (.exit 0) (pwOut x (pw x (nb (l.take l.length))) l (decide (nb (l.take l.length) ≠ 0)) l.length)) := by
  refine sum_loop gam24_ok mixed (fun j => pwOut x (pw x (nb (l.take j))) l (decide (nb (l.take j) ≠ 0)) j) l.length rfl (fun j hj => ?_) ⟨100, 100, [.is false], pw_exit x _ l _ _ (decide_eq_false (by omega))⟩
  have hr := inB_getD hb j
  obtain ⟨b, hbe⟩ := Int.eq_ofNat_of_zero_le hr.1
  have hbl : b < 256 := by omega
  have h0 := (be_range (inB_take hb j)).1
  have e0 : qb (nb (l.take j)) b 0 = nb (l.take j) := by
    unfold qb
    rw [Nat.pow_zero, Nat.mul_one, Nat.div_eq_of_lt hbl, Nat.add_zero]
  have e8 : qb (nb (l.take j)) b 8 = nb (l.take (j + 1)) := by
    unfold qb nb
    rw [be_succ hj, hbe]
    have : 8 - 8 = 0 := rfl
    rw [this, Nat.pow_zero, Nat.div_one]
    omega
  have hin := pw_in_loop x l j (nb (l.take j)) b hbl
  rw [e0, e8] at hin
  exact ⟨100, 100, [.is true, .loop _], pw_round x _ _ l _ _ j b (decide_eq_true (by omega)) (by omega) (by omega) hin hbe ⟨by omega, by omega⟩⟩

def powD12 : FnD FD
  | [.agg p, .one (.words .u8 l)] => match s12.all p with
    | some x => some (.v (s12.arg (pw (α := K12) x (nb l))), [InB l, l.length ≤ 9223372036854775806])
    | none => none
  | _ => none

theorem pow12_ok : FnOK Try.prog FD 12 powD12 := by
  refine fnOK_of gam24_ok mixed Try.func12 (enters_of Try.func12 (by kernel_rfl) rfl) ?_
  intro xs r ps h hps
  unfold powD12 at h
  split at h
  · rename_i p l
    split at h
    · rename_i x hx
      simp only [Option.some.injEq, Prod.mk.injEq] at h
      obtain ⟨rfl, rfl⟩ := h
      have hb : InB l := hps _ (by simp)
      have hl : l.length ≤ 9223372036854775806 := hps _ (by simp)
      have hlo := pw_loop x hb hl
      rw [List.take_length] at hlo
      obtain ⟨ps, h1, h2⟩ := pw_run x _ l _ _ hlo
      exact ⟨_, 100, _, _, _, fun w vs h => args2 (fun v hv => s12.all_rel hx hv) (fun v hv => hv) h, h1, h2, fun E v hv => hv⟩
    · cases h
  · cases h

end Go.Num

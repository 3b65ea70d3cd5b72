/- Messages: their bytes. -/
import Derived.Test.YtbmjpcpmejibjaaW1
namespace Go.Num
open Go.Abs Go.Proofs Go.Shelf

def gw2 : Gam D0 := (22, rightD) :: gw1
theorem gw2_ok : GamOK Try.prog D0 gw2 := gam_cons right_ok gw1_ok

theorem check_a_r (kd ep fr wh tp rd : Int) (bd : List Int) : runF Try.prog D0 gw2 200 Try.f13 [.agg (msgP kd ep fr wh tp rd bd)] [.is false] =
    some ((Go.Abs.AV.v (Go.Abs.A0.one (Go.Abs.Part.int Go.IntKind.i64 Bool.true (60 : Int)))), [((decide (((0 : Int) ≤ ep) ∧ (ep ≤ (1048576 : Int)))) = Bool.false)]) := by kernel_rfl
theorem check_a (kd ep fr wh tp rd : Int) (bd : List Int)
    (h1 : ((decide (((0 : Int) ≤ ep) ∧ (ep ≤ (1048576 : Int)))) = Bool.false)) :
    ∃ ps, runF Try.prog D0 gw2 200 Try.f13 [.agg (msgP kd ep fr wh tp rd bd)] [.is false] = some ((Go.Abs.AV.v (Go.Abs.A0.one (Go.Abs.Part.int Go.IntKind.i64 Bool.true (60 : Int)))), ps) ∧ AllQ ps := ⟨_, check_a_r kd ep fr wh tp rd bd, AllP.all h1⟩

theorem check_b_r (kd ep fr wh tp rd : Int) (bd : List Int) : runF Try.prog D0 gw2 200 Try.f13 [.agg (msgP kd ep fr wh tp rd bd)] [.is true, .is false] =
    some ((Go.Abs.AV.v (Go.Abs.A0.one (Go.Abs.Part.int Go.IntKind.i64 Bool.true (60 : Int)))), [((decide (((0 : Int) ≤ ep) ∧ (ep ≤ (1048576 : Int)))) = Bool.true), ((decide (((1 : Int) ≤ fr) ∧ (fr ≤ (9 : Int)))) = Bool.false)]) := by kernel_rfl
theorem check_b (kd ep fr wh tp rd : Int) (bd : List Int)
    (h1 : ((decide (((0 : Int) ≤ ep) ∧ (ep ≤ (1048576 : Int)))) = Bool.true))
    (h2 : ((decide (((1 : Int) ≤ fr) ∧ (fr ≤ (9 : Int)))) = Bool.false)) :
    ∃ ps, runF Try.prog D0 gw2 200 Try.f13 [.agg (msgP kd ep fr wh tp rd bd)] [.is true, .is false] = some ((Go.Abs.AV.v (Go.Abs.A0.one (Go.Abs.Part.int Go.IntKind.i64 Bool.true (60 : Int)))), ps) ∧ AllQ ps := ⟨_, check_b_r kd ep fr wh tp rd bd, AllP.all ⟨h1, h2⟩⟩

theorem check_c_r (kd ep fr wh tp rd : Int) (bd : List Int) : runF Try.prog D0 gw2 200 Try.f13 [.agg (msgP kd ep fr wh tp rd bd)] [.is true, .is true, .is false] =
    some ((Go.Abs.AV.v (Go.Abs.A0.one (Go.Abs.Part.int Go.IntKind.i64 Bool.true (60 : Int)))), [((decide (((0 : Int) ≤ ep) ∧ (ep ≤ (1048576 : Int)))) = Bool.true), ((decide (((1 : Int) ≤ fr) ∧ (fr ≤ (9 : Int)))) = Bool.true), ((decide (Go.Num.Rt kd fr wh tp rd (List.length bd))) = Bool.false), ((List.length bd) ≤ (9223372036854775807 : Nat))]) := by kernel_rfl
theorem check_c (kd ep fr wh tp rd : Int) (bd : List Int)
    (h1 : ((decide (((0 : Int) ≤ ep) ∧ (ep ≤ (1048576 : Int)))) = Bool.true))
    (h2 : ((decide (((1 : Int) ≤ fr) ∧ (fr ≤ (9 : Int)))) = Bool.true))
    (h3 : ((decide (Go.Num.Rt kd fr wh tp rd (List.length bd))) = Bool.false))
    (h4 : ((List.length bd) ≤ (9223372036854775807 : Nat))) :
    ∃ ps, runF Try.prog D0 gw2 200 Try.f13 [.agg (msgP kd ep fr wh tp rd bd)] [.is true, .is true, .is false] = some ((Go.Abs.AV.v (Go.Abs.A0.one (Go.Abs.Part.int Go.IntKind.i64 Bool.true (60 : Int)))), ps) ∧ AllQ ps := ⟨_, check_c_r kd ep fr wh tp rd bd, AllP.all ⟨h1, h2, h3, h4⟩⟩

theorem check_d_r (kd ep fr wh tp rd : Int) (bd : List Int) : runF Try.prog D0 gw2 200 Try.f13 [.agg (msgP kd ep fr wh tp rd bd)] [.is true, .is true, .is true] =
    some ((Go.Abs.AV.v (Go.Abs.A0.one (Go.Abs.Part.int Go.IntKind.i64 Bool.true (0 : Int)))), [((decide (((0 : Int) ≤ ep) ∧ (ep ≤ (1048576 : Int)))) = Bool.true), ((decide (((1 : Int) ≤ fr) ∧ (fr ≤ (9 : Int)))) = Bool.true), ((decide (Go.Num.Rt kd fr wh tp rd (List.length bd))) = Bool.true), ((List.length bd) ≤ (9223372036854775807 : Nat))]) := by kernel_rfl
theorem check_d (kd ep fr wh tp rd : Int) (bd : List Int)
    (h1 : ((decide (((0 : Int) ≤ ep) ∧ (ep ≤ (1048576 : Int)))) = Bool.true))
    (h2 : ((decide (((1 : Int) ≤ fr) ∧ (fr ≤ (9 : Int)))) = Bool.true))
    (h3 : ((decide (Go.Num.Rt kd fr wh tp rd (List.length bd))) = Bool.true))
    (h4 : ((List.length bd) ≤ (9223372036854775807 : Nat))) :
    ∃ ps, runF Try.prog D0 gw2 200 Try.f13 [.agg (msgP kd ep fr wh tp rd bd)] [.is true, .is true, .is true] = some ((Go.Abs.AV.v (Go.Abs.A0.one (Go.Abs.Part.int Go.IntKind.i64 Bool.true (0 : Int)))), ps) ∧ AllQ ps := ⟨_, check_d_r kd ep fr wh tp rd bd, AllP.all ⟨h1, h2, h3, h4⟩⟩

/-! put -/

def putSn (l : List Int) (n i : Int) : Sn D0.τ where
  slots := [(0, .v (.one (.own 0))), (1, .v (.one (.int .i64 false n))), (7, .v (.one (.int .i64 false i)))]
  boxes := [(0, .dyn 5 (.ints .u8 l))]
  nt := 23

theorem put_round_r (l l' : List Int) (n i i' : Int) : stepPs Try.prog D0 [] 100 (bodyOf Try.f20) 100 (putSn l n i).st [.is true] .normal (putSn l' n i') =
    some [((decide (i ≥ (0 : Int))) = Bool.true), (Go.Abs.InI64 ((8 : Int) * i)), ((0 : Int) ≤ ((8 : Int) * i)), (((List.length l) + (1 : Nat)) ≤ (9223372036854775807 : Nat)), ((((List.length l) + (1 : Nat)) * (1 : Nat)) ≤ (140737488355328 : Nat)), (Go.Abs.InI64 (i - (1 : Int))), (n = n), ((i - (1 : Int)) = i'), ((l ++ ((Go.IntKind.wrap Go.IntKind.u8 (Int.fdiv n ((2 : Int) ^ (min (Int.toNat ((8 : Int) * i)) (64 : Nat))))) :: ([] : List (Int)))) = l')] := by kernel_rfl
theorem put_round (l l' : List Int) (n i i' : Int)
    (h1 : ((decide (i ≥ (0 : Int))) = Bool.true))
    (h2 : (Go.Abs.InI64 ((8 : Int) * i)))
    (h3 : ((0 : Int) ≤ ((8 : Int) * i)))
    (h4 : (((List.length l) + (1 : Nat)) ≤ (9223372036854775807 : Nat)))
    (h5 : ((((List.length l) + (1 : Nat)) * (1 : Nat)) ≤ (140737488355328 : Nat)))
    (h6 : (Go.Abs.InI64 (i - (1 : Int))))
    (h7 : ((i - (1 : Int)) = i'))
    (h8 : ((l ++ ((Go.IntKind.wrap Go.IntKind.u8 (Int.fdiv n ((2 : Int) ^ (min (Int.toNat ((8 : Int) * i)) (64 : Nat))))) :: ([] : List (Int)))) = l')) :
    ∃ ps, stepPs Try.prog D0 [] 100 (bodyOf Try.f20) 100 (putSn l n i).st [.is true] .normal (putSn l' n i') = some ps ∧ AllQ ps := ⟨_, put_round_r l l' n i i', AllP.all ⟨h1, h2, h3, h4, h5, h6, rfl, h7, h8⟩⟩

theorem put_exit_r (l : List Int) (n i : Int) : stepPs Try.prog D0 [] 100 (bodyOf Try.f20) 100 (putSn l n i).st [.is false] (.exit 0) (putSn l n i) =
    some [((decide (i ≥ (0 : Int))) = Bool.false), (n = n), (i = i), (l = l)] := by kernel_rfl
theorem put_exit (l : List Int) (n i : Int)
    (h1 : ((decide (i ≥ (0 : Int))) = Bool.false)) :
    ∃ ps, stepPs Try.prog D0 [] 100 (bodyOf Try.f20) 100 (putSn l n i).st [.is false] (.exit 0) (putSn l n i) = some ps ∧ AllQ ps := ⟨_, put_exit_r l n i, AllP.all ⟨h1, rfl, rfl, rfl⟩⟩

theorem put_run_r (l l' : List Int) (n z i i' : Int) : runTk Try.prog D0 [] 100 Try.f20 5 .u8 l [.one (.int .i64 false n), .one (.int .i64 false z)] [.loop (loopL D0 (putSn l n i) (.exit 0) (putSn l' n i'))] =
    some (l', [(Go.Abs.InI64 (z - (1 : Int))), SumOK Try.prog D0 (bodyOf Try.f20) (loopL D0 (putSn l n i) (.exit 0) (putSn l' n i')), (n = n), ((z - (1 : Int)) = i), (l = l)]) := by kernel_rfl
theorem put_run (l l' : List Int) (n z i i' : Int)
    (h1 : (Go.Abs.InI64 (z - (1 : Int))))
    (h2 : SumOK Try.prog D0 (bodyOf Try.f20) (loopL D0 (putSn l n i) (.exit 0) (putSn l' n i')))
    (h3 : ((z - (1 : Int)) = i)) :
    ∃ ps, runTk Try.prog D0 [] 100 Try.f20 5 .u8 l [.one (.int .i64 false n), .one (.int .i64 false z)] [.loop (loopL D0 (putSn l n i) (.exit 0) (putSn l' n i'))] = some (l', ps) ∧ AllQ ps := ⟨_, put_run_r l l' n z i i', AllP.all ⟨h1, h2, rfl, h3, rfl⟩⟩

/-! get -/

def getSn (l : List Int) (n i : Int) : Sn D0.τ where
  slots := [(3, .v (.one (.int .i64 false n))), (6, .v (.one (.words .u8 l))), (7, .v (.one (.int .i64 false l.length))), (8, .v (.one (.int .i64 false i)))]
  boxes := []
  nt := 19

theorem get_round_r (l : List Int) (n n' i i' : Int) : stepPs Try.prog D0 [] 100 (bodyOf Try.f24) 100 (getSn l n i).st [.is true] .normal (getSn l n' i') =
    some [((decide (i < (((List.length l) : Nat) : Int))) = Bool.true), ((0 : Int) ≤ i), (i < (((List.length l) : Nat) : Int)), (Go.Abs.InI64 (i + (1 : Int))), ((Go.Abs.bitsOf Go.BinOp.or Go.IntKind.i64 (Go.IntKind.wrap Go.IntKind.i64 (n * ((2 : Int) ^ (min (8 : Nat) (64 : Nat))))) (Go.IntKind.wrap Go.IntKind.i64 (List.getD l (Int.toNat i) (0 : Int)))) = n'), (l = l), ((((List.length l) : Nat) : Int) = (((List.length l) : Nat) : Int)), ((i + (1 : Int)) = i')] := by kernel_rfl
theorem get_round (l : List Int) (n n' i i' : Int)
    (h1 : ((decide (i < (((List.length l) : Nat) : Int))) = Bool.true))
    (h2 : ((0 : Int) ≤ i))
    (h3 : (i < (((List.length l) : Nat) : Int)))
    (h4 : (Go.Abs.InI64 (i + (1 : Int))))
    (h5 : ((Go.Abs.bitsOf Go.BinOp.or Go.IntKind.i64 (Go.IntKind.wrap Go.IntKind.i64 (n * ((2 : Int) ^ (min (8 : Nat) (64 : Nat))))) (Go.IntKind.wrap Go.IntKind.i64 (List.getD l (Int.toNat i) (0 : Int)))) = n'))
    (h6 : ((i + (1 : Int)) = i')) :
    ∃ ps, stepPs Try.prog D0 [] 100 (bodyOf Try.f24) 100 (getSn l n i).st [.is true] .normal (getSn l n' i') = some ps ∧ AllQ ps := ⟨_, get_round_r l n n' i i', AllP.all ⟨h1, h2, h3, h4, h5, rfl, rfl, h6⟩⟩

theorem get_exit_r (l : List Int) (n i : Int) : stepPs Try.prog D0 [] 100 (bodyOf Try.f24) 100 (getSn l n i).st [.is false] (.exit 0) (getSn l n i) =
    some [((decide (i < (((List.length l) : Nat) : Int))) = Bool.false), (n = n), (l = l), ((((List.length l) : Nat) : Int) = (((List.length l) : Nat) : Int)), (i = i)] := by kernel_rfl
theorem get_exit (l : List Int) (n i : Int)
    (h1 : ((decide (i < (((List.length l) : Nat) : Int))) = Bool.false)) :
    ∃ ps, stepPs Try.prog D0 [] 100 (bodyOf Try.f24) 100 (getSn l n i).st [.is false] (.exit 0) (getSn l n i) = some ps ∧ AllQ ps := ⟨_, get_exit_r l n i, AllP.all ⟨h1, rfl, rfl, rfl, rfl⟩⟩

theorem get_run_r (l : List Int) (n i : Int) : runF Try.prog D0 [] 100 Try.f24 [.one (.words .u8 l)] [.loop (loopL D0 (getSn l 0 0) (.exit 0) (getSn l n i))] =
    some ((Go.Abs.AV.v (Go.Abs.A0.one (Go.Abs.Part.int Go.IntKind.i64 Bool.false n))), [SumOK Try.prog D0 (bodyOf Try.f24) (loopL D0 (getSn l 0 0) (.exit 0) (getSn l n i)), ((0 : Int) = (0 : Int)), (l = l), ((((List.length l) : Nat) : Int) = (((List.length l) : Nat) : Int)), ((0 : Int) = (0 : Int))]) := by kernel_rfl
theorem get_run (l : List Int) (n i : Int)
    (h1 : SumOK Try.prog D0 (bodyOf Try.f24) (loopL D0 (getSn l 0 0) (.exit 0) (getSn l n i))) :
    ∃ ps, runF Try.prog D0 [] 100 Try.f24 [.one (.words .u8 l)] [.loop (loopL D0 (getSn l 0 0) (.exit 0) (getSn l n i))] = some ((Go.Abs.AV.v (Go.Abs.A0.one (Go.Abs.Part.int Go.IntKind.i64 Bool.false n))), ps) ∧ AllQ ps := ⟨_, get_run_r l n i, AllP.all ⟨h1, rfl, rfl, rfl, rfl⟩⟩

/-! Clone -/

theorem clone_nil_r  : runF Try.prog D0 [] 100 Try.f25 [.one .nil] [] =
    some ((Go.Abs.AV.v (Go.Abs.A0.one (Go.Abs.Part.nil))), []) := by kernel_rfl
theorem clone_nil  :
    ∃ ps, runF Try.prog D0 [] 100 Try.f25 [.one .nil] [] = some ((Go.Abs.AV.v (Go.Abs.A0.one (Go.Abs.Part.nil))), ps) ∧ AllQ ps := ⟨_, clone_nil_r , allQ_nil⟩

theorem clone_some_r (l : List Int) : runF Try.prog D0 [] 100 Try.f25 [.one (.nnw .u8 l)] [] =
    some ((Go.Abs.AV.v (Go.Abs.A0.one (Go.Abs.Part.fresh (0 : Nat) (5 : Nat) Go.IntKind.u8 (([] : List (Int)) ++ l)))), [(((0 : Nat) + (List.length l)) ≤ (9223372036854775807 : Nat)), ((((0 : Nat) + (List.length l)) * (1 : Nat)) ≤ (140737488355328 : Nat))]) := by kernel_rfl
theorem clone_some (l : List Int)
    (h1 : (((0 : Nat) + (List.length l)) ≤ (9223372036854775807 : Nat)))
    (h2 : ((((0 : Nat) + (List.length l)) * (1 : Nat)) ≤ (140737488355328 : Nat))) :
    ∃ ps, runF Try.prog D0 [] 100 Try.f25 [.one (.nnw .u8 l)] [] = some ((Go.Abs.AV.v (Go.Abs.A0.one (Go.Abs.Part.fresh (0 : Nat) (5 : Nat) Go.IntKind.u8 (([] : List (Int)) ++ l)))), ps) ∧ AllQ ps := ⟨_, clone_some_r l, AllP.all ⟨h1, h2⟩⟩

/-! Check -/

def Msg.Ck (m : Msg) : Prop := 0 ≤ m.ep ∧ m.ep ≤ 1048576 ∧ 1 ≤ m.fr ∧ m.fr ≤ 9 ∧ m.Rt
instance (m : Msg) : Decidable m.Ck := inferInstanceAs (Decidable (_ ∧ _))

def Msg.err (m : Msg) : Int := if m.Ck then 0 else 60

def checkD : FnD D0
  | [.agg p] => match msgOf p with
    | some m => some (.v (.one (.int .i64 false m.err)), [m.bd.length ≤ 9223372036854775807])
    | none => none
  | _ => none

theorem check_ok : FnOK Try.prog D0 13 checkD := by
  refine fnOK_of gw2_ok mixed Try.func13 (enters_of Try.func13 (by kernel_rfl) rfl) ?_
  intro xs r ps h hps
  unfold checkD at h
  split at h
  · split at h
    · rename_i m hm
      simp only [Option.some.injEq, Prod.mk.injEq] at h
      obtain ⟨rfl, rfl⟩ := h
      have hlen : m.bd.length ≤ 9223372036854775807 := hps _ (List.mem_cons_self ..)
      by_cases c1 : 0 ≤ m.ep ∧ m.ep ≤ 1048576
      · by_cases c2 : 1 ≤ m.fr ∧ m.fr ≤ 9
        · by_cases c3 : m.Rt
          · obtain ⟨ps, h1, h2⟩ := check_d m.kd m.ep m.fr m.wh m.tp m.rd m.bd (decide_eq_true c1) (decide_eq_true c2) (decide_eq_true c3) hlen
            exact ⟨_, 200, _, _, _, fun w vs h => args1 (fun v hv => msgOf_rel hm hv) h, h1, h2, fun E v hv => one_int (if_pos ⟨c1.1, c1.2, c2.1, c2.2, c3⟩ : m.err = 0).symm hv⟩
          · obtain ⟨ps, h1, h2⟩ := check_c m.kd m.ep m.fr m.wh m.tp m.rd m.bd (decide_eq_true c1) (decide_eq_true c2) (decide_eq_false c3) hlen
            exact ⟨_, 200, _, _, _, fun w vs h => args1 (fun v hv => msgOf_rel hm hv) h, h1, h2, fun E v hv => one_int (if_neg (fun h => c3 h.2.2.2.2) : m.err = 60).symm hv⟩
        · obtain ⟨ps, h1, h2⟩ := check_b m.kd m.ep m.fr m.wh m.tp m.rd m.bd (decide_eq_true c1) (decide_eq_false c2)
          exact ⟨_, 200, _, _, _, fun w vs h => args1 (fun v hv => msgOf_rel hm hv) h, h1, h2, fun E v hv => one_int (if_neg (fun h => c2 ⟨h.2.2.1, h.2.2.2.1⟩) : m.err = 60).symm hv⟩
      · obtain ⟨ps, h1, h2⟩ := check_a m.kd m.ep m.fr m.wh m.tp m.rd m.bd (decide_eq_false c1)
        exact ⟨_, 200, _, _, _, fun w vs h => args1 (fun v hv => msgOf_rel hm hv) h, h1, h2, fun E v hv => one_int (if_neg (fun h => c1 ⟨h.1, h.2.1⟩) : m.err = 60).symm hv⟩
    · cases h
  · cases h

/-! put -/

theorem beB_take (z : Nat) (n : Int) {k : Nat} (h : k < z) : (beB z n).take (k + 1) = (beB z n).take k ++ [n / 256 ^ (z - 1 - k) % 256] := by
  rw [← beB_range n z, ← List.map_take, ← List.map_take, List.take_range, List.take_range, show min (k + 1) z = k + 1 from by omega, show min k z = k from by omega, List.range_succ, List.map_append]
  rfl

theorem byte_at (n : Int) {i : Nat} (h : i < 8) : IntKind.wrap .u8 (Int.fdiv n (2 ^ (min (Int.toNat (8 * (i : Int))) 64))) = n / 256 ^ i % 256 := by
  have e : min (Int.toNat (8 * (i : Int))) 64 = 8 * i := by omega
  rw [e, Int.fdiv_eq_ediv_of_nonneg _ (by have : (0 : Int) < 2 ^ (8 * i) := Int.pow_pos (by decide); omega), IntKind.wrap_u8, Int.pow_mul]
  rfl

theorem put_loop (l : List Int) (n : Int) {z : Nat} (hz : z ≤ 8) (hl : l.length ≤ 140737488000000) :
    SumOK Try.prog D0 (bodyOf Try.f20) (loopL D0 (putSn l n ((z : Int) - 1)) (.exit 0) (putSn (l ++ beB z n) n (-1))) := by
  have key : SumOK Try.prog D0 (bodyOf Try.f20) (loopL D0 (putSn (l ++ (beB z n).take 0) n ((z : Int) - 1 - (0 : Nat))) (.exit 0) (putSn (l ++ (beB z n).take z) n ((z : Int) - 1 - z))) := by
    refine sum_loop gam_nil mixed (fun k => putSn (l ++ (beB z n).take k) n ((z : Int) - 1 - k)) z rfl (fun k hk => ⟨100, 100, [.is true], ?_⟩) ⟨100, 100, [.is false], put_exit _ n _ (decide_eq_false (by omega))⟩
    have hi : (z : Int) - 1 - k = ((z - 1 - k : Nat) : Int) := by omega
    have hlen : (l ++ (beB z n).take k).length ≤ 140737488000100 := by rw [List.length_append, List.length_take, beB_len]; omega
    refine put_round _ _ n _ _ (decide_eq_true (by omega)) ⟨by omega, by omega⟩ (by omega) (by omega) (by omega) ⟨by omega, by omega⟩ (by omega) ?_
    rw [hi, byte_at n (by omega), List.append_assoc, beB_take z n hk]
  rw [List.take_zero, List.append_nil, List.take_of_length_le (by rw [beB_len]; omega), show (z : Int) - 1 - (0 : Nat) = (z : Int) - 1 from by omega, show (z : Int) - 1 - z = -1 from by omega] at key
  exact key

def putT (l : List Int) (xs : List (A0 D0.τ)) : Option (List Int × List Prop) :=
  match xs with
  | [.one (.int .i64 _ n), .one (.int .i64 _ z)] => some (l ++ beB z.toNat n, [0 ≤ z, z ≤ 8, l.length ≤ 140737488000000])
  | _ => none

theorem put_ok : TkOK Try.prog D0 20 5 .u8 putT := by
  refine tkOK_of gam_nil mixed Try.func20 (enters_of Try.func20 (by kernel_rfl) rfl) ?_
  intro l xs l' ps h hps
  unfold putT at h
  split at h
  · rename_i s n t z
    simp only [Option.some.injEq, Prod.mk.injEq] at h
    obtain ⟨rfl, rfl⟩ := h
    have h0 : 0 ≤ z := hps _ (by simp)
    have h1 : z ≤ 8 := hps _ (by simp)
    have h2 : l.length ≤ 140737488000000 := hps _ (by simp)
    obtain ⟨z, rfl⟩ := Int.eq_ofNat_of_zero_le h0
    obtain ⟨ps, h3, h4⟩ := put_run l _ n z _ _ ⟨by omega, by omega⟩ (put_loop l n (z := z) (by omega) h2) rfl
    exact ⟨_, 100, _, _, fun w => args_cons int_lit (args_cons int_lit fun _ h => h), rfl, h3, h4⟩
  · cases h

/-! get -/

theorem or_i64 {n b : Int} (h0 : 0 ≤ b) (h1 : b < 256) : bitsOf .or .i64 (IntKind.wrap .i64 (n * (2 ^ (min 8 64)))) (IntKind.wrap .i64 b) = IntKind.wrap .i64 (n * 256 + b) := by
  show IntKind.wrap .i64 (((BitVec.ofInt 64 (IntKind.wrap .i64 (n * 2 ^ 8)) ||| BitVec.ofInt 64 (IntKind.wrap .i64 b)).toNat : Nat) : Int) = _
  rw [BitVec.toNat_or, BitVec.toNat_ofInt, BitVec.toNat_ofInt]
  have e1 : (IntKind.wrap .i64 (n * 2 ^ 8) % ((2 ^ 64 : Nat) : Int)).toNat = 2 ^ 8 * ((n % 2 ^ 56).toNat) := by rw [IntKind.wrap_i64]; omega
  have e2 : (IntKind.wrap .i64 b % ((2 ^ 64 : Nat) : Int)).toNat = b.toNat := by rw [IntKind.wrap_i64]; omega
  rw [e1, e2, ← Nat.two_pow_add_eq_or_of_lt (by omega), IntKind.wrap_i64, IntKind.wrap_i64]
  omega

theorem be_succ {l : List Int} {j : Nat} (hj : j < l.length) : be (l.take (j + 1)) = be (l.take j) * 256 + l.getD j 0 := by
  rw [List.take_succ_eq_append_getElem hj, be_append]
  have e : l.getD j 0 = l[j] := by simp [List.getD, hj]
  rw [e]
  show be (List.take j l) * 256 ^ 1 + (l[j] * 256 ^ 0 + 0) = _
  rw [Int.pow_zero, Int.mul_one, Int.add_zero]
  rfl

theorem inB_getD {l : List Int} (h : InB l) (j : Nat) : 0 ≤ l.getD j 0 ∧ l.getD j 0 < 256 := by
  by_cases hj : j < l.length
  · have e : l.getD j 0 = l[j] := by simp [List.getD, hj]
    rw [e]
    exact h _ (List.getElem_mem hj)
  · have e : l.getD j 0 = 0 := by simp [List.getD, List.getElem?_eq_none (Nat.le_of_not_lt hj)]
    rw [e]
    decide

def getV (l : List Int) : Int := IntKind.wrap .i64 (be l)

theorem get_loop {l : List Int} (hb : InB l) (hl : l.length ≤ 9223372036854775806) :
    SumOK Try.prog D0 (bodyOf Try.f24) (loopL D0 (getSn l 0 0) (.exit 0) (getSn l (getV l) l.length)) := by
  have key : SumOK Try.prog D0 (bodyOf Try.f24) (loopL D0 (getSn l (getV (l.take 0)) (0 : Nat)) (.exit 0) (getSn l (getV (l.take l.length)) l.length)) := by
    refine sum_loop gam_nil mixed (fun k => getSn l (getV (l.take k)) k) l.length rfl (fun k hk => ⟨100, 100, [.is true], ?_⟩) ⟨100, 100, [.is false], get_exit l _ _ (decide_eq_false (by omega))⟩
    have hr := inB_getD hb k
    refine get_round l _ _ k _ (decide_eq_true (by omega)) (by omega) (by omega) ⟨by omega, by omega⟩ ?_ rfl
    show bitsOf .or .i64 (IntKind.wrap .i64 (getV (l.take k) * (2 ^ (min 8 64)))) (IntKind.wrap .i64 (l.getD (Int.toNat (k : Int)) 0)) = getV (l.take (k + 1))
    rw [Int.toNat_natCast, or_i64 hr.1 hr.2, getV, getV, be_succ hk]
    simp only [IntKind.wrap_i64]
    omega
  rw [List.take_length] at key
  exact key

def getD' : FnD D0
  | [.one (.words .u8 l)] => some (.v (.one (.int .i64 false (getV l))), [InB l, l.length ≤ 9223372036854775806])
  | _ => none

theorem get_ok : FnOK Try.prog D0 24 getD' := by
  refine fnOK_of gam_nil mixed Try.func24 (enters_of Try.func24 (by kernel_rfl) rfl) ?_
  intro xs r ps h hps
  unfold getD' at h
  split at h
  · rename_i l
    simp only [Option.some.injEq, Prod.mk.injEq] at h
    obtain ⟨rfl, rfl⟩ := h
    have hb : InB l := hps _ (by simp)
    have hl : l.length ≤ 9223372036854775806 := hps _ (by simp)
    obtain ⟨ps, h1, h2⟩ := get_run l _ _ (get_loop hb hl)
    exact ⟨_, 100, _, _, _, fun w vs h => h, h1, h2, fun E v hv => hv⟩
  · cases h

/-! Clone -/

def cloneD : FnD D0
  | [.one p] => match bytesP p with
    | some l => some (.v (.one (.fresh 0 5 .u8 l)), [l.length ≤ 140737488355328])
    | none => none
  | _ => none

theorem clone_ok : FnOK Try.prog D0 25 cloneD := by
  intro xs r ps hF hps w vs hx
  unfold cloneD at hF
  split at hF
  · rename_i p
    split at hF
    · rename_i l hl
      simp only [Option.some.injEq, Prod.mk.injEq] at hF
      obtain ⟨rfl, rfl⟩ := hF
      have hlen : l.length ≤ 140737488355328 := hps _ (List.mem_cons_self ..)
      obtain ⟨v, us, rfl, ⟨h1, h2⟩, h3⟩ := hx
      cases h3
      obtain ⟨u, hu, ao, cap, rfl, q1, q2, q3, q4⟩ := bytesP_part hl h2
      simp only [List.cons.injEq, and_true] at hu
      subst hu
      refine ⟨_, enters_of Try.func25 (by kernel_rfl) rfl _ w, ?_⟩
      cases ao with
      | none =>
        have hc := q3 rfl
        subst hc
        have hl0 : l = [] := List.length_eq_zero_iff.1 (by omega)
        subst hl0
        obtain ⟨ps, r1, r2⟩ := clone_nil
        refine (runF_calls gam_nil mixed Try.func25 r1 r2 ⟨_, [], rfl, ⟨rfl, rfl⟩, rfl⟩).mono ?_
        rintro e w' ⟨v, he, ⟨ν, _, hr⟩, hb⟩
        have hv : [v] = [Value.slice none 0 0] := hr.2
        simp only [List.cons.injEq, and_true] at hv
        subst hv
        exact ⟨_, he, ⟨nilν, nilν_disj, rfl, fresh_nil⟩, hb⟩
      | some a =>
        obtain ⟨ps, r1, r2⟩ := clone_some l (by omega) (by omega)
        refine (runF_calls gam_nil mixed Try.func25 r1 r2 ⟨_, [], rfl, ⟨rfl, a, l.length, cap, rfl, some a, cap, rfl, q1, q2, q3, q4⟩, rfl⟩).mono ?_
        rintro e w' ⟨v, he, hr, hb⟩
        exact ⟨v, he, hr, hb⟩
    · cases hF
  · cases hF

end Go.Num

/- SHA-256: Join; the runs of ShaSums and ShaStreams. -/
import Derived.Test.YtjglidfemgodiaaDoorS10
namespace Go.Num
open Go.Abs Go.Proofs Go.Shelf

def jnSn (ll : List (List Int)) (o : List Int) (sl : List (Nat × AV DS.τ)) : Sn DS.τ where
  slots := [(0, .v (.one (.wordss .u8 ll))), (3, .v (.one (.own 0))), slI 7 ll.length] ++ sl
  boxes := [(0, .dyn 5 (.ints .u8 o))]
  nt := 19

def jnEnd (o : List Int) : Sn DS.τ where
  slots := [(3, .v (.one (.own 0)))]
  boxes := [(0, .dyn 5 (.ints .u8 o))]
  nt := 19

theorem jn_round_r (ll : List (List Int)) (o o' : List Int) (i : Nat) : stepPs Tryd.prog DS [] 100 (bodyN Tryd.f14 0) 100 (jnSn ll o [slI 8 i]).st [.is true] .normal (jnSn ll o' [slI 8 ((i : Int) + 1)]) =
    some [((decide (((i : Nat) : Int) < (((List.length ll) : Nat) : Int))) = Bool.true), ((0 : Int) ≤ ((i : Nat) : Int)), (((i : Nat) : Int) < (((List.length ll) : Nat) : Int)), (((List.length o) + (List.length (List.getD ll (Int.toNat ((i : Nat) : Int)) ([] : List (Int))))) ≤ (9223372036854775807 : Nat)), ((((List.length o) + (List.length (List.getD ll (Int.toNat ((i : Nat) : Int)) ([] : List (Int))))) * (1 : Nat)) ≤ (140737488355328 : Nat)), (Go.Abs.InI64 (((i : Nat) : Int) + (1 : Int))), (ll = ll), ((((List.length ll) : Nat) : Int) = (((List.length ll) : Nat) : Int)), ((((i : Nat) : Int) + (1 : Int)) = (((i : Nat) : Int) + (1 : Int))), ((o ++ (List.getD ll (Int.toNat ((i : Nat) : Int)) ([] : List (Int)))) = o')] := by kernel_rfl
theorem jn_round (ll : List (List Int)) (o o' : List Int) (i : Nat)
    (h1 : ((decide (((i : Nat) : Int) < (((List.length ll) : Nat) : Int))) = Bool.true))
    (h2 : ((0 : Int) ≤ ((i : Nat) : Int)))
    (h3 : (((i : Nat) : Int) < (((List.length ll) : Nat) : Int)))
    (h4 : (((List.length o) + (List.length (List.getD ll (Int.toNat ((i : Nat) : Int)) ([] : List (Int))))) ≤ (9223372036854775807 : Nat)))
    (h5 : ((((List.length o) + (List.length (List.getD ll (Int.toNat ((i : Nat) : Int)) ([] : List (Int))))) * (1 : Nat)) ≤ (140737488355328 : Nat)))
    (h6 : (Go.Abs.InI64 (((i : Nat) : Int) + (1 : Int))))
    (h7 : ((o ++ (List.getD ll (Int.toNat ((i : Nat) : Int)) ([] : List (Int)))) = o')) :
    ∃ ps, stepPs Tryd.prog DS [] 100 (bodyN Tryd.f14 0) 100 (jnSn ll o [slI 8 i]).st [.is true] .normal (jnSn ll o' [slI 8 ((i : Int) + 1)]) = some ps ∧ AllQ ps := ⟨_, jn_round_r ll o o' i, AllP.all ⟨h1, h2, h3, h4, h5, h6, rfl, rfl, rfl, h7⟩⟩

theorem jn_exit_r (ll : List (List Int)) (o : List Int) (i : Nat) : stepPs Tryd.prog DS [] 100 (bodyN Tryd.f14 0) 100 (jnSn ll o [slI 8 i]).st [.is false] (.exit 0) (jnEnd o) =
    some [((decide (((i : Nat) : Int) < (((List.length ll) : Nat) : Int))) = Bool.false), (o = o)] := by kernel_rfl
theorem jn_exit (ll : List (List Int)) (o : List Int) (i : Nat)
    (h1 : ((decide (((i : Nat) : Int) < (((List.length ll) : Nat) : Int))) = Bool.false)) :
    ∃ ps, stepPs Tryd.prog DS [] 100 (bodyN Tryd.f14 0) 100 (jnSn ll o [slI 8 i]).st [.is false] (.exit 0) (jnEnd o) = some ps ∧ AllQ ps := ⟨_, jn_exit_r ll o i, AllP.all ⟨h1, rfl⟩⟩

theorem jn_run_r (ll : List (List Int)) (o0 o : List Int) : runF Tryd.prog DS [] 100 Tryd.f14 [.one (.wordss .u8 ll)] [.loop (loopL DS (jnSn ll o0 [slI 8 (0 : Nat)]) (.exit 0) (jnEnd o))] =
    some ((Go.Abs.AV.v (Go.Abs.A0.one (Go.Abs.Part.fresh (0 : Nat) (5 : TypeId) Go.IntKind.u8 o))), [SumOK Tryd.prog DS (bodyN Tryd.f14 0) (loopL DS (jnSn ll o0 [slI 8 (0 : Nat)]) (.exit 0) (jnEnd o)), (ll = ll), ((((List.length ll) : Nat) : Int) = (((List.length ll) : Nat) : Int)), ((0 : Int) = (((0 : Nat) : Nat) : Int)), (([] : List (Int)) = o0)]) := by kernel_rfl
theorem jn_run (ll : List (List Int)) (o0 o : List Int)
    (h1 : SumOK Tryd.prog DS (bodyN Tryd.f14 0) (loopL DS (jnSn ll o0 [slI 8 (0 : Nat)]) (.exit 0) (jnEnd o)))
    (h2 : (([] : List (Int)) = o0)) :
    ∃ ps, runF Tryd.prog DS [] 100 Tryd.f14 [.one (.wordss .u8 ll)] [.loop (loopL DS (jnSn ll o0 [slI 8 (0 : Nat)]) (.exit 0) (jnEnd o))] = some ((Go.Abs.AV.v (Go.Abs.A0.one (Go.Abs.Part.fresh (0 : Nat) (5 : TypeId) Go.IntKind.u8 o))), ps) ∧ AllQ ps := ⟨_, jn_run_r ll o0 o, AllP.all ⟨h1, rfl, rfl, (show ((0 : Int) = (((0 : Nat) : Nat) : Int)) from by decide), h2⟩⟩

def joinD : FnD DS
  | [.one (.wordss .u8 ll)] => some (.v (.one (.fresh 0 5 .u8 ll.flatten)), [ll.flatten.length ≤ 1000000, ll.length ≤ 9223372036854775807])
  | _ => none

noncomputable def gamU : Gam DS := [(9, .fn headD), (10, .fz (copyD DS)), (12, .fn ofD), (14, .fn joinD), (13, .fn rfD), (11, .fn isD), (15, .fn (sameD DS))]

def su1Sn (ll ml : List (List Int)) (n : Int) (sl : List (Nat × AV DS.τ)) : Sn DS.τ where
  slots := [(0, .v (.one (.wordss .u8 ll))), (3, .v (.one (.own 0))), slI 4 n] ++ sl
  boxes := [(0, .dyn 24 (.lws .u8 ml))]
  nt := 55

def su1In (ll : List (List Int)) (i : Int) : List (Nat × AV DS.τ) := [(12, .v (.one (.wordss .u8 ll))), slI 13 ll.length, slI 14 i]

def su2Sn (ll ml : List (List Int)) (sl : List (Nat × AV DS.τ)) : Sn DS.τ where
  slots := [(0, .v (.one (.wordss .u8 ll))), (3, .v (.one (.own 0))), (7, .v (.one (.bool true true)))] ++ sl
  boxes := [(0, .dyn 24 (.lws .u8 ml))]
  nt := 55

def su2End : Sn DS.τ where
  slots := [(7, .v (.one (.bool true true)))]
  boxes := []
  nt := 55

theorem su1_round_r (ll ml ml' : List (List Int)) (n n' : Int) (i : Nat) : stepPs Tryd.prog DS gamU 100 (bodyN Tryd.f3 0) 100 (su1Sn ll ml n (su1In ll i)).st [.is true] .normal (su1Sn ll ml' n' (su1In ll ((i : Int) + 1))) =
    some [((decide (((i : Nat) : Int) < (((List.length ll) : Nat) : Int))) = Bool.true), ((0 : Int) ≤ ((i : Nat) : Int)), (((i : Nat) : Int) < (((List.length ll) : Nat) : Int)), ((List.length (List.getD ll (Int.toNat ((i : Nat) : Int)) ([] : List (Int)))) ≤ (281474976710656 : Nat)), ((((List.length ml) + (1 : Nat)) * (24 : Nat)) ≤ (140737488355328 : Nat)), (((List.length ml) + (1 : Nat)) ≤ (9223372036854775807 : Nat)), (Go.Abs.InI64 (n + (((List.length (List.getD ll (Int.toNat ((i : Nat) : Int)) ([] : List (Int)))) : Nat) : Int))), (Go.Abs.InI64 (((i : Nat) : Int) + (1 : Int))), (ll = ll), ((n + (((List.length (List.getD ll (Int.toNat ((i : Nat) : Int)) ([] : List (Int)))) : Nat) : Int)) = n'), (ll = ll), ((((List.length ll) : Nat) : Int) = (((List.length ll) : Nat) : Int)), ((((i : Nat) : Int) + (1 : Int)) = (((i : Nat) : Int) + (1 : Int))), ((ml ++ ((List.getD ll (Int.toNat ((i : Nat) : Int)) ([] : List (Int))) :: ([] : List (List Int)))) = ml')] := by kernel_rfl
theorem su1_round (ll ml ml' : List (List Int)) (n n' : Int) (i : Nat)
    (h1 : ((decide (((i : Nat) : Int) < (((List.length ll) : Nat) : Int))) = Bool.true))
    (h2 : ((0 : Int) ≤ ((i : Nat) : Int)))
    (h3 : (((i : Nat) : Int) < (((List.length ll) : Nat) : Int)))
    (h4 : ((List.length (List.getD ll (Int.toNat ((i : Nat) : Int)) ([] : List (Int)))) ≤ (281474976710656 : Nat)))
    (h5 : ((((List.length ml) + (1 : Nat)) * (24 : Nat)) ≤ (140737488355328 : Nat)))
    (h6 : (((List.length ml) + (1 : Nat)) ≤ (9223372036854775807 : Nat)))
    (h7 : (Go.Abs.InI64 (n + (((List.length (List.getD ll (Int.toNat ((i : Nat) : Int)) ([] : List (Int)))) : Nat) : Int))))
    (h8 : (Go.Abs.InI64 (((i : Nat) : Int) + (1 : Int))))
    (h9 : ((n + (((List.length (List.getD ll (Int.toNat ((i : Nat) : Int)) ([] : List (Int)))) : Nat) : Int)) = n'))
    (h10 : ((ml ++ ((List.getD ll (Int.toNat ((i : Nat) : Int)) ([] : List (Int))) :: ([] : List (List Int)))) = ml')) :
    ∃ ps, stepPs Tryd.prog DS gamU 100 (bodyN Tryd.f3 0) 100 (su1Sn ll ml n (su1In ll i)).st [.is true] .normal (su1Sn ll ml' n' (su1In ll ((i : Int) + 1))) = some ps ∧ AllQ ps := ⟨_, su1_round_r ll ml ml' n n' i, AllP.all ⟨h1, h2, h3, h4, h5, h6, h7, h8, rfl, h9, rfl, rfl, rfl, h10⟩⟩

theorem su1_exit_r (ll ml : List (List Int)) (n : Int) (i : Nat) : stepPs Tryd.prog DS gamU 100 (bodyN Tryd.f3 0) 100 (su1Sn ll ml n (su1In ll i)).st [.is false] (.exit 0) (su1Sn ll ml n []) =
    some [((decide (((i : Nat) : Int) < (((List.length ll) : Nat) : Int))) = Bool.false), (ll = ll), (n = n), (ml = ml)] := by kernel_rfl
theorem su1_exit (ll ml : List (List Int)) (n : Int) (i : Nat)
    (h1 : ((decide (((i : Nat) : Int) < (((List.length ll) : Nat) : Int))) = Bool.false)) :
    ∃ ps, stepPs Tryd.prog DS gamU 100 (bodyN Tryd.f3 0) 100 (su1Sn ll ml n (su1In ll i)).st [.is false] (.exit 0) (su1Sn ll ml n []) = some ps ∧ AllQ ps := ⟨_, su1_exit_r ll ml n i, AllP.all ⟨h1, rfl, rfl, rfl⟩⟩

theorem su2_round_r (ll ml : List (List Int)) (i : Nat) : stepPs Tryd.prog DS gamU 100 (bodyN Tryd.f3 1) 100 (su2Sn ll ml [slI 37 ml.length, slI 38 i]).st [.is true, .is true] .normal (su2Sn ll ml [slI 37 ml.length, slI 38 ((i : Int) + 1)]) =
    some [((decide (((i : Nat) : Int) < (((List.length ml) : Nat) : Int))) = Bool.true), ((0 : Int) ≤ ((i : Nat) : Int)), (((i : Nat) : Int) < (((List.length ml) : Nat) : Int)), ((Int.toNat ((i : Nat) : Int)) < (List.length ml)), ((0 : Int) ≤ ((i : Nat) : Int)), (((i : Nat) : Int) < (((List.length ll) : Nat) : Int)), ((decide ((List.getD ml (Int.toNat ((i : Nat) : Int)) ([] : List (Int))) = (List.getD ll (Int.toNat ((i : Nat) : Int)) ([] : List (Int))))) = Bool.true), ((List.length (List.getD ml (Int.toNat ((i : Nat) : Int)) ([] : List (Int)))) ≤ (9223372036854775807 : Nat)), ((List.length (List.getD ll (Int.toNat ((i : Nat) : Int)) ([] : List (Int)))) ≤ (9223372036854775807 : Nat)), (Go.Abs.InI64 (((i : Nat) : Int) + (1 : Int))), (ll = ll), ((((List.length ml) : Nat) : Int) = (((List.length ml) : Nat) : Int)), ((((i : Nat) : Int) + (1 : Int)) = (((i : Nat) : Int) + (1 : Int))), (ml = ml)] := by kernel_rfl
theorem su2_round (ll ml : List (List Int)) (i : Nat)
    (h1 : ((decide (((i : Nat) : Int) < (((List.length ml) : Nat) : Int))) = Bool.true))
    (h2 : ((0 : Int) ≤ ((i : Nat) : Int)))
    (h3 : (((i : Nat) : Int) < (((List.length ml) : Nat) : Int)))
    (h4 : ((Int.toNat ((i : Nat) : Int)) < (List.length ml)))
    (h5 : (((i : Nat) : Int) < (((List.length ll) : Nat) : Int)))
    (h6 : ((decide ((List.getD ml (Int.toNat ((i : Nat) : Int)) ([] : List (Int))) = (List.getD ll (Int.toNat ((i : Nat) : Int)) ([] : List (Int))))) = Bool.true))
    (h7 : ((List.length (List.getD ml (Int.toNat ((i : Nat) : Int)) ([] : List (Int)))) ≤ (9223372036854775807 : Nat)))
    (h8 : ((List.length (List.getD ll (Int.toNat ((i : Nat) : Int)) ([] : List (Int)))) ≤ (9223372036854775807 : Nat)))
    (h9 : (Go.Abs.InI64 (((i : Nat) : Int) + (1 : Int)))) :
    ∃ ps, stepPs Tryd.prog DS gamU 100 (bodyN Tryd.f3 1) 100 (su2Sn ll ml [slI 37 ml.length, slI 38 i]).st [.is true, .is true] .normal (su2Sn ll ml [slI 37 ml.length, slI 38 ((i : Int) + 1)]) = some ps ∧ AllQ ps := ⟨_, su2_round_r ll ml i, AllP.all ⟨h1, h2, h3, h4, h2, h5, h6, h7, h8, h9, rfl, rfl, rfl, rfl⟩⟩

theorem su2_exit_r (ll ml : List (List Int)) (i : Nat) : stepPs Tryd.prog DS gamU 100 (bodyN Tryd.f3 1) 100 (su2Sn ll ml [slI 37 ml.length, slI 38 i]).st [.is false] (.exit 2) su2End =
    some [((decide (((i : Nat) : Int) < (((List.length ml) : Nat) : Int))) = Bool.false)] := by kernel_rfl
theorem su2_exit (ll ml : List (List Int)) (i : Nat)
    (h1 : ((decide (((i : Nat) : Int) < (((List.length ml) : Nat) : Int))) = Bool.false)) :
    ∃ ps, stepPs Tryd.prog DS gamU 100 (bodyN Tryd.f3 1) 100 (su2Sn ll ml [slI 37 ml.length, slI 38 i]).st [.is false] (.exit 2) su2End = some ps ∧ AllQ ps := ⟨_, su2_exit_r ll ml i, AllP.all h1⟩

theorem su_run_r (ll ml : List (List Int)) (n : Int) : runF Tryd.prog DS gamU 200 Tryd.f3 [.one (.wordss .u8 ll)] [.loop (loopL DS (su1Sn ll [] 0 (su1In ll (0 : Nat))) (.exit 0) (su1Sn ll ml n [])), .is false, .is true, .loop (loopL DS (su2Sn ll ml [slI 37 ml.length, slI 38 (0 : Nat)]) (.exit 2) su2End)] =
    some ((Go.Abs.AV.v (Go.Abs.A0.one (Go.Abs.Part.bool Bool.true Bool.true))), [SumOK Tryd.prog DS (bodyN Tryd.f3 0) (loopL DS (su1Sn ll [] 0 (su1In ll (0 : Nat))) (.exit 0) (su1Sn ll ml n [])), (ll = ll), ((0 : Int) = (0 : Int)), (ll = ll), ((((List.length ll) : Nat) : Int) = (((List.length ll) : Nat) : Int)), ((0 : Int) = (((0 : Nat) : Nat) : Int)), (([] : List (List Int)) = ([] : List (List Int))), ((decide (n > (65536 : Int))) = Bool.false), ((Go.Num.ofN ml (List.length ml)) ≤ (4611686018427387904 : Nat)), ((List.length ml) ≤ (9223372036854775807 : Nat)), ((List.length (List.flatten ll)) ≤ (1000000 : Nat)), ((List.length ll) ≤ (9223372036854775807 : Nat)), ((List.length (List.flatten ll)) ≤ (1000000000 : Nat)), ((decide ((Go.Num.ofF ml) = (Go.Num.rfSum (List.flatten ll)))) = Bool.true), ((List.length (Go.Num.ofF ml)) = (32 : Nat)), ((List.length (Go.Num.rfSum (List.flatten ll))) ≤ (9223372036854775807 : Nat)), SumOK Tryd.prog DS (bodyN Tryd.f3 1) (loopL DS (su2Sn ll ml [slI 37 ml.length, slI 38 (0 : Nat)]) (.exit 2) su2End), (ll = ll), ((((List.length ml) : Nat) : Int) = (((List.length ml) : Nat) : Int)), ((0 : Int) = (((0 : Nat) : Nat) : Int)), (ml = ml)]) := by kernel_rfl
theorem su_run (ll ml : List (List Int)) (n : Int)
    (h1 : SumOK Tryd.prog DS (bodyN Tryd.f3 0) (loopL DS (su1Sn ll [] 0 (su1In ll (0 : Nat))) (.exit 0) (su1Sn ll ml n [])))
    (h2 : ((decide (n > (65536 : Int))) = Bool.false))
    (h3 : ((Go.Num.ofN ml (List.length ml)) ≤ (4611686018427387904 : Nat)))
    (h4 : ((List.length ml) ≤ (9223372036854775807 : Nat)))
    (h5 : ((List.length (List.flatten ll)) ≤ (1000000 : Nat)))
    (h6 : ((List.length ll) ≤ (9223372036854775807 : Nat)))
    (h7 : ((List.length (List.flatten ll)) ≤ (1000000000 : Nat)))
    (h8 : ((decide ((Go.Num.ofF ml) = (Go.Num.rfSum (List.flatten ll)))) = Bool.true))
    (h9 : ((List.length (Go.Num.ofF ml)) = (32 : Nat)))
    (h10 : ((List.length (Go.Num.rfSum (List.flatten ll))) ≤ (9223372036854775807 : Nat)))
    (h11 : SumOK Tryd.prog DS (bodyN Tryd.f3 1) (loopL DS (su2Sn ll ml [slI 37 ml.length, slI 38 (0 : Nat)]) (.exit 2) su2End)) :
    ∃ ps, runF Tryd.prog DS gamU 200 Tryd.f3 [.one (.wordss .u8 ll)] [.loop (loopL DS (su1Sn ll [] 0 (su1In ll (0 : Nat))) (.exit 0) (su1Sn ll ml n [])), .is false, .is true, .loop (loopL DS (su2Sn ll ml [slI 37 ml.length, slI 38 (0 : Nat)]) (.exit 2) su2End)] = some ((Go.Abs.AV.v (Go.Abs.A0.one (Go.Abs.Part.bool Bool.true Bool.true))), ps) ∧ AllQ ps := ⟨_, su_run_r ll ml n, AllP.all ⟨h1, rfl, rfl, rfl, rfl, (show ((0 : Int) = (((0 : Nat) : Nat) : Int)) from by decide), rfl, h2, h3, h4, h5, h6, h7, h8, h9, h10, h11, rfl, rfl, (show ((0 : Int) = (((0 : Nat) : Nat) : Int)) from by decide), rfl⟩⟩

theorem su_big_r (ll ml : List (List Int)) (n : Int) : runF Tryd.prog DS gamU 200 Tryd.f3 [.one (.wordss .u8 ll)] [.loop (loopL DS (su1Sn ll [] 0 (su1In ll (0 : Nat))) (.exit 0) (su1Sn ll ml n [])), .is true] =
    some ((Go.Abs.AV.v (Go.Abs.A0.one (Go.Abs.Part.bool Bool.true Bool.true))), [SumOK Tryd.prog DS (bodyN Tryd.f3 0) (loopL DS (su1Sn ll [] 0 (su1In ll (0 : Nat))) (.exit 0) (su1Sn ll ml n [])), (ll = ll), ((0 : Int) = (0 : Int)), (ll = ll), ((((List.length ll) : Nat) : Int) = (((List.length ll) : Nat) : Int)), ((0 : Int) = (((0 : Nat) : Nat) : Int)), (([] : List (List Int)) = ([] : List (List Int))), ((decide (n > (65536 : Int))) = Bool.true)]) := by kernel_rfl
theorem su_big (ll ml : List (List Int)) (n : Int)
    (h1 : SumOK Tryd.prog DS (bodyN Tryd.f3 0) (loopL DS (su1Sn ll [] 0 (su1In ll (0 : Nat))) (.exit 0) (su1Sn ll ml n [])))
    (h2 : ((decide (n > (65536 : Int))) = Bool.true)) :
    ∃ ps, runF Tryd.prog DS gamU 200 Tryd.f3 [.one (.wordss .u8 ll)] [.loop (loopL DS (su1Sn ll [] 0 (su1In ll (0 : Nat))) (.exit 0) (su1Sn ll ml n [])), .is true] = some ((Go.Abs.AV.v (Go.Abs.A0.one (Go.Abs.Part.bool Bool.true Bool.true))), ps) ∧ AllQ ps := ⟨_, su_big_r ll ml n, AllP.all ⟨h1, rfl, rfl, rfl, rfl, (show ((0 : Int) = (((0 : Nat) : Nat) : Int)) from by decide), rfl, h2⟩⟩

noncomputable def gamV : Gam DS := [(9, .fn headD), (10, .fn (copyD DS)), (13, .fn rfD), (11, .fn isD), (16, .op [] nwD), (17, .op [true, false] wrD), (18, .op [true] smD), (19, .op [true] lnD), (20, .op [true] rsD)]

/-- Between the pieces. -/
def stSn (ll : List (List Int)) (rs : Int) (s r all : List Int) (n : Int) (i : Int) : Sn DS.τ where
  slots := [(0, .v (.one (.wordss .u8 ll))), slI 1 rs, (5, .v (.one (.ref 0 0))), (6, .v (.one (.own 1))), (19, .v (.one (.wordss .u8 ll))), slI 20 ll.length, slI 21 i]
  boxes := [(0, .fixed 50 (hashP s r n)), (1, .dyn 5 (.ints .u8 all))]
  nt := 96

/-- Within the loop that turns the bytes over. -/
def siSn (ll : List (List Int)) (rs : Int) (s r all p q : List Int) (n : Int) (i : Int) (sl : List (Nat × AV DS.τ)) : Sn DS.τ where
  slots := [(0, .v (.one (.wordss .u8 ll))), slI 1 rs, (5, .v (.one (.ref 0 0))), (6, .v (.one (.own 1))), (8, .v (.one (.words .u8 p))), (19, .v (.one (.wordss .u8 ll))), slI 20 ll.length, slI 21 i] ++ sl
  boxes := [(0, .fixed 50 (hashP s r n)), (1, .dyn 5 (.ints .u8 all)), (2, .dyn 5 (.ints .u8 q))]
  nt := 96
def siIn (m j : Int) : List (Nat × AV DS.τ) := [(9, .v (.one (.own 2))), slI 47 m, slI 48 j]

def siSn0 (ll : List (List Int)) (rs : Int) (s r p q : List Int) (n : Int) (i : Int) (sl : List (Nat × AV DS.τ)) : Sn DS.τ where
  slots := [(0, .v (.one (.wordss .u8 ll))), slI 1 rs, (5, .v (.one (.ref 0 0))), (6, .v (.one .nil)), (8, .v (.one (.words .u8 p))), (19, .v (.one (.wordss .u8 ll))), slI 20 ll.length, slI 21 i] ++ sl
  boxes := [(0, .fixed 50 (hashP s r n)), (2, .dyn 5 (.ints .u8 q))]
  nt := 96

def siEd (ll : List (List Int)) (rs : Int) (s r all p : List Int) (n : Int) (i : Int) : Sn DS.τ where
  slots := [(0, .v (.one (.wordss .u8 ll))), slI 1 rs, (5, .v (.one (.ref 0 0))), (6, .v (.one (.own 1))), (8, .v (.one (.words .u8 p))), (19, .v (.one (.wordss .u8 ll))), slI 20 ll.length, slI 21 i]
  boxes := [(0, .fixed 50 (hashP s r n)), (1, .dyn 5 (.ints .u8 all))]
  nt := 96

def siEd0 (ll : List (List Int)) (rs : Int) (s r p : List Int) (n : Int) (i : Int) : Sn DS.τ where
  slots := [(0, .v (.one (.wordss .u8 ll))), slI 1 rs, (5, .v (.one (.ref 0 0))), (6, .v (.one .nil)), (8, .v (.one (.words .u8 p))), (19, .v (.one (.wordss .u8 ll))), slI 20 ll.length, slI 21 i]
  boxes := [(0, .fixed 50 (hashP s r n))]
  nt := 96

def stEnd : Sn DS.τ where
  slots := [(4, .v (.one (.bool true true)))]
  boxes := []
  nt := 96

theorem si_round_r (ll : List (List Int)) (rs : Int) (s r all p q q' : List Int) (n i m : Int) (j : Nat) : stepPs Tryd.prog DS gamV 100 (bodyN Tryd.f5 1) 100 (siSn ll rs s r all p q n i (siIn m j)).st [.is true] .normal (siSn ll rs s r all p q' n i (siIn m ((j : Int) + 1))) =
    some [((decide (((j : Nat) : Int) < m)) = Bool.true), ((0 : Int) ≤ ((j : Nat) : Int)), (((j : Nat) : Int) < (((List.length q) : Nat) : Int)), ((Int.toNat ((j : Nat) : Int)) < (List.length q)), ((0 : Int) ≤ ((j : Nat) : Int)), (((j : Nat) : Int) < (((List.length q) : Nat) : Int)), ((Int.toNat ((j : Nat) : Int)) < (List.length q)), ((some (1 : Nat)) = (some (1 : Nat))), (Go.Abs.InI64 (((j : Nat) : Int) + (1 : Int))), (ll = ll), (rs = rs), (p = p), (ll = ll), ((((List.length ll) : Nat) : Int) = (((List.length ll) : Nat) : Int)), (i = i), (m = m), ((((j : Nat) : Int) + (1 : Int)) = (((j : Nat) : Int) + (1 : Int))), (s = s), (r = r), (n = n), (all = all), ((List.set q (Int.toNat ((j : Nat) : Int)) (Go.Abs.bitsOf Go.BinOp.xor Go.IntKind.u8 (List.getD q (Int.toNat ((j : Nat) : Int)) (0 : Int)) (255 : Int))) = q')] := by kernel_rfl
theorem si_round (ll : List (List Int)) (rs : Int) (s r all p q q' : List Int) (n i m : Int) (j : Nat)
    (h1 : ((decide (((j : Nat) : Int) < m)) = Bool.true))
    (h2 : ((0 : Int) ≤ ((j : Nat) : Int)))
    (h3 : (((j : Nat) : Int) < (((List.length q) : Nat) : Int)))
    (h4 : ((Int.toNat ((j : Nat) : Int)) < (List.length q)))
    (h5 : (Go.Abs.InI64 (((j : Nat) : Int) + (1 : Int))))
    (h6 : ((List.set q (Int.toNat ((j : Nat) : Int)) (Go.Abs.bitsOf Go.BinOp.xor Go.IntKind.u8 (List.getD q (Int.toNat ((j : Nat) : Int)) (0 : Int)) (255 : Int))) = q')) :
    ∃ ps, stepPs Tryd.prog DS gamV 100 (bodyN Tryd.f5 1) 100 (siSn ll rs s r all p q n i (siIn m j)).st [.is true] .normal (siSn ll rs s r all p q' n i (siIn m ((j : Int) + 1))) = some ps ∧ AllQ ps := ⟨_, si_round_r ll rs s r all p q q' n i m j, AllP.all ⟨h1, h2, h3, h4, h2, h3, h4, rfl, h5, rfl, rfl, rfl, rfl, rfl, rfl, rfl, rfl, rfl, rfl, rfl, rfl, h6⟩⟩

theorem si_exit_r (ll : List (List Int)) (rs : Int) (s r all p q : List Int) (n i m : Int) (j : Nat) : stepPs Tryd.prog DS gamV 100 (bodyN Tryd.f5 1) 100 (siSn ll rs s r all p q n i (siIn m j)).st [.is false] (.exit 2) (siEd ll rs s r all p n i) =
    some [((decide (((j : Nat) : Int) < m)) = Bool.false), (ll = ll), (rs = rs), (p = p), (ll = ll), ((((List.length ll) : Nat) : Int) = (((List.length ll) : Nat) : Int)), (i = i), (s = s), (r = r), (n = n), (all = all)] := by kernel_rfl
theorem si_exit (ll : List (List Int)) (rs : Int) (s r all p q : List Int) (n i m : Int) (j : Nat)
    (h1 : ((decide (((j : Nat) : Int) < m)) = Bool.false)) :
    ∃ ps, stepPs Tryd.prog DS gamV 100 (bodyN Tryd.f5 1) 100 (siSn ll rs s r all p q n i (siIn m j)).st [.is false] (.exit 2) (siEd ll rs s r all p n i) = some ps ∧ AllQ ps := ⟨_, si_exit_r ll rs s r all p q n i m j, AllP.all ⟨h1, rfl, rfl, rfl, rfl, rfl, rfl, rfl, rfl, rfl, rfl⟩⟩

theorem si0_round_r (ll : List (List Int)) (rs : Int) (s r p q q' : List Int) (n i m : Int) (j : Nat) : stepPs Tryd.prog DS gamV 100 (bodyN Tryd.f5 1) 100 (siSn0 ll rs s r p q n i (siIn m j)).st [.is true] .normal (siSn0 ll rs s r p q' n i (siIn m ((j : Int) + 1))) =
    some [((decide (((j : Nat) : Int) < m)) = Bool.true), ((0 : Int) ≤ ((j : Nat) : Int)), (((j : Nat) : Int) < (((List.length q) : Nat) : Int)), ((Int.toNat ((j : Nat) : Int)) < (List.length q)), ((0 : Int) ≤ ((j : Nat) : Int)), (((j : Nat) : Int) < (((List.length q) : Nat) : Int)), ((Int.toNat ((j : Nat) : Int)) < (List.length q)), ((some (1 : Nat)) = (some (1 : Nat))), (Go.Abs.InI64 (((j : Nat) : Int) + (1 : Int))), (ll = ll), (rs = rs), (p = p), (ll = ll), ((((List.length ll) : Nat) : Int) = (((List.length ll) : Nat) : Int)), (i = i), (m = m), ((((j : Nat) : Int) + (1 : Int)) = (((j : Nat) : Int) + (1 : Int))), (s = s), (r = r), (n = n), ((List.set q (Int.toNat ((j : Nat) : Int)) (Go.Abs.bitsOf Go.BinOp.xor Go.IntKind.u8 (List.getD q (Int.toNat ((j : Nat) : Int)) (0 : Int)) (255 : Int))) = q')] := by kernel_rfl
theorem si0_round (ll : List (List Int)) (rs : Int) (s r p q q' : List Int) (n i m : Int) (j : Nat)
    (h1 : ((decide (((j : Nat) : Int) < m)) = Bool.true))
    (h2 : ((0 : Int) ≤ ((j : Nat) : Int)))
    (h3 : (((j : Nat) : Int) < (((List.length q) : Nat) : Int)))
    (h4 : ((Int.toNat ((j : Nat) : Int)) < (List.length q)))
    (h5 : (Go.Abs.InI64 (((j : Nat) : Int) + (1 : Int))))
    (h6 : ((List.set q (Int.toNat ((j : Nat) : Int)) (Go.Abs.bitsOf Go.BinOp.xor Go.IntKind.u8 (List.getD q (Int.toNat ((j : Nat) : Int)) (0 : Int)) (255 : Int))) = q')) :
    ∃ ps, stepPs Tryd.prog DS gamV 100 (bodyN Tryd.f5 1) 100 (siSn0 ll rs s r p q n i (siIn m j)).st [.is true] .normal (siSn0 ll rs s r p q' n i (siIn m ((j : Int) + 1))) = some ps ∧ AllQ ps := ⟨_, si0_round_r ll rs s r p q q' n i m j, AllP.all ⟨h1, h2, h3, h4, h2, h3, h4, rfl, h5, rfl, rfl, rfl, rfl, rfl, rfl, rfl, rfl, rfl, rfl, rfl, h6⟩⟩

theorem si0_exit_r (ll : List (List Int)) (rs : Int) (s r p q : List Int) (n i m : Int) (j : Nat) : stepPs Tryd.prog DS gamV 100 (bodyN Tryd.f5 1) 100 (siSn0 ll rs s r p q n i (siIn m j)).st [.is false] (.exit 2) (siEd0 ll rs s r p n i) =
    some [((decide (((j : Nat) : Int) < m)) = Bool.false), (ll = ll), (rs = rs), (p = p), (ll = ll), ((((List.length ll) : Nat) : Int) = (((List.length ll) : Nat) : Int)), (i = i), (s = s), (r = r), (n = n)] := by kernel_rfl
theorem si0_exit (ll : List (List Int)) (rs : Int) (s r p q : List Int) (n i m : Int) (j : Nat)
    (h1 : ((decide (((j : Nat) : Int) < m)) = Bool.false)) :
    ∃ ps, stepPs Tryd.prog DS gamV 100 (bodyN Tryd.f5 1) 100 (siSn0 ll rs s r p q n i (siIn m j)).st [.is false] (.exit 2) (siEd0 ll rs s r p n i) = some ps ∧ AllQ ps := ⟨_, si0_exit_r ll rs s r p q n i m j, AllP.all ⟨h1, rfl, rfl, rfl, rfl, rfl, rfl, rfl, rfl, rfl⟩⟩

theorem st_round_r (ll : List (List Int)) (rs : Int) (s r all s' r' all' p q : List Int) (n n' m : Int) (i : Nat) : stepPs Tryd.prog DS gamV 200 (bodyN Tryd.f5 0) 100 (stSn ll rs s r all n i).st [.is true, .is false, .is false, .is false, .loop (loopL DS (siSn ll rs s' r' all p q n' i (siIn m (0 : Nat))) (.exit 2) (siEd ll rs s' r' all p n' i)), .is false, .is false, .is true] .normal (stSn ll rs s' r' all' n' ((i : Int) + 1)) =
    some [((decide (((i : Nat) : Int) < (((List.length ll) : Nat) : Int))) = Bool.true), ((0 : Int) ≤ ((i : Nat) : Int)), (((i : Nat) : Int) < (((List.length ll) : Nat) : Int)), (Go.Abs.InI64 ((((List.length all) : Nat) : Int) + (((List.length (List.getD ll (Int.toNat ((i : Nat) : Int)) ([] : List (Int)))) : Nat) : Int))), ((decide (((((List.length all) : Nat) : Int) + (((List.length (List.getD ll (Int.toNat ((i : Nat) : Int)) ([] : List (Int)))) : Nat) : Int)) > (16384 : Int))) = Bool.false), ((decide (((i : Nat) : Int) > (40 : Int))) = Bool.false), ((((i : Nat) : Int) == rs) = Bool.false), ((List.length (List.getD ll (Int.toNat ((i : Nat) : Int)) ([] : List (Int)))) ≤ (281474976710656 : Nat)), ((List.getD ll (Int.toNat ((i : Nat) : Int)) ([] : List (Int))) = (List.getD ll (Int.toNat ((i : Nat) : Int)) ([] : List (Int)))), (s = s), (r = r), (n = n), ((0 : Int) ≤ n), ((n + (((List.length (List.getD ll (Int.toNat ((i : Nat) : Int)) ([] : List (Int)))) : Nat) : Int)) ≤ (9223372036854775807 : Int)), SumOK Tryd.prog DS (bodyN Tryd.f5 1) (loopL DS (siSn ll rs s' r' all p q n' i (siIn m (0 : Nat))) (.exit 2) (siEd ll rs s' r' all p n' i)), (ll = ll), (rs = rs), ((List.getD ll (Int.toNat ((i : Nat) : Int)) ([] : List (Int))) = p), (ll = ll), ((((List.length ll) : Nat) : Int) = (((List.length ll) : Nat) : Int)), (((i : Nat) : Int) = ((i : Nat) : Int)), ((((List.length (List.getD ll (Int.toNat ((i : Nat) : Int)) ([] : List (Int)))) : Nat) : Int) = m), ((0 : Int) = (((0 : Nat) : Nat) : Int)), ((Go.Num.writeS s r (Int.toNat n) (List.getD ll (Int.toNat ((i : Nat) : Int)) ([] : List (Int)))) = s'), ((Go.Num.writeR s r (Int.toNat n) (List.getD ll (Int.toNat ((i : Nat) : Int)) ([] : List (Int)))) = r'), ((n + (((List.length (List.getD ll (Int.toNat ((i : Nat) : Int)) ([] : List (Int)))) : Nat) : Int)) = n'), (all = all), ((List.getD ll (Int.toNat ((i : Nat) : Int)) ([] : List (Int))) = q), (((List.length all) + (List.length p)) ≤ (9223372036854775807 : Nat)), ((((List.length all) + (List.length p)) * (1 : Nat)) ≤ (140737488355328 : Nat)), (s' = s'), (r' = r'), (n' = n'), ((0 : Int) ≤ n'), (n' ≤ (4611686018427387904 : Int)), (s' = s'), (r' = r'), (n' = n'), ((n' != (((List.length (all ++ p)) : Nat) : Int)) = Bool.false), (s' = s'), (r' = r'), (n' = n'), ((0 : Int) ≤ n'), (n' ≤ (4611686018427387904 : Int)), ((!(decide ((Go.Num.sumF s' r' (Int.toNat n')) = (Go.Num.sumF s' r' (Int.toNat n'))))) = Bool.false), (Go.Abs.EqT Go.Proofs.Tryd.prog (27 : Nat)), ((List.length (all ++ p)) ≤ (1000000000 : Nat)), ((decide ((Go.Num.sumF s' r' (Int.toNat n')) = (Go.Num.rfSum (all ++ p)))) = Bool.true), ((List.length (Go.Num.sumF s' r' (Int.toNat n'))) = (32 : Nat)), ((List.length (Go.Num.rfSum (all ++ p))) ≤ (9223372036854775807 : Nat)), (Go.Abs.InI64 (((i : Nat) : Int) + (1 : Int))), (ll = ll), (rs = rs), (ll = ll), ((((List.length ll) : Nat) : Int) = (((List.length ll) : Nat) : Int)), ((((i : Nat) : Int) + (1 : Int)) = (((i : Nat) : Int) + (1 : Int))), (s' = s'), (r' = r'), (n' = n'), ((all ++ p) = all')] := by kernel_rfl
theorem st_round (ll : List (List Int)) (rs : Int) (s r all s' r' all' p q : List Int) (n n' m : Int) (i : Nat)
    (h1 : ((decide (((i : Nat) : Int) < (((List.length ll) : Nat) : Int))) = Bool.true))
    (h2 : ((0 : Int) ≤ ((i : Nat) : Int)))
    (h3 : (((i : Nat) : Int) < (((List.length ll) : Nat) : Int)))
    (h4 : (Go.Abs.InI64 ((((List.length all) : Nat) : Int) + (((List.length (List.getD ll (Int.toNat ((i : Nat) : Int)) ([] : List (Int)))) : Nat) : Int))))
    (h5 : ((decide (((((List.length all) : Nat) : Int) + (((List.length (List.getD ll (Int.toNat ((i : Nat) : Int)) ([] : List (Int)))) : Nat) : Int)) > (16384 : Int))) = Bool.false))
    (h6 : ((decide (((i : Nat) : Int) > (40 : Int))) = Bool.false))
    (h7 : ((((i : Nat) : Int) == rs) = Bool.false))
    (h8 : ((List.length (List.getD ll (Int.toNat ((i : Nat) : Int)) ([] : List (Int)))) ≤ (281474976710656 : Nat)))
    (h9 : ((0 : Int) ≤ n))
    (h10 : ((n + (((List.length (List.getD ll (Int.toNat ((i : Nat) : Int)) ([] : List (Int)))) : Nat) : Int)) ≤ (9223372036854775807 : Int)))
    (h11 : SumOK Tryd.prog DS (bodyN Tryd.f5 1) (loopL DS (siSn ll rs s' r' all p q n' i (siIn m (0 : Nat))) (.exit 2) (siEd ll rs s' r' all p n' i)))
    (h12 : ((List.getD ll (Int.toNat ((i : Nat) : Int)) ([] : List (Int))) = p))
    (h13 : ((((List.length (List.getD ll (Int.toNat ((i : Nat) : Int)) ([] : List (Int)))) : Nat) : Int) = m))
    (h14 : ((Go.Num.writeS s r (Int.toNat n) (List.getD ll (Int.toNat ((i : Nat) : Int)) ([] : List (Int)))) = s'))
    (h15 : ((Go.Num.writeR s r (Int.toNat n) (List.getD ll (Int.toNat ((i : Nat) : Int)) ([] : List (Int)))) = r'))
    (h16 : ((n + (((List.length (List.getD ll (Int.toNat ((i : Nat) : Int)) ([] : List (Int)))) : Nat) : Int)) = n'))
    (h17 : ((List.getD ll (Int.toNat ((i : Nat) : Int)) ([] : List (Int))) = q))
    (h18 : (((List.length all) + (List.length p)) ≤ (9223372036854775807 : Nat)))
    (h19 : ((((List.length all) + (List.length p)) * (1 : Nat)) ≤ (140737488355328 : Nat)))
    (h20 : ((0 : Int) ≤ n'))
    (h21 : (n' ≤ (4611686018427387904 : Int)))
    (h22 : ((n' != (((List.length (all ++ p)) : Nat) : Int)) = Bool.false))
    (h23 : ((!(decide ((Go.Num.sumF s' r' (Int.toNat n')) = (Go.Num.sumF s' r' (Int.toNat n'))))) = Bool.false))
    (h24 : (Go.Abs.EqT Go.Proofs.Tryd.prog (27 : Nat)))
    (h25 : ((List.length (all ++ p)) ≤ (1000000000 : Nat)))
    (h26 : ((decide ((Go.Num.sumF s' r' (Int.toNat n')) = (Go.Num.rfSum (all ++ p)))) = Bool.true))
    (h27 : ((List.length (Go.Num.sumF s' r' (Int.toNat n'))) = (32 : Nat)))
    (h28 : ((List.length (Go.Num.rfSum (all ++ p))) ≤ (9223372036854775807 : Nat)))
    (h29 : (Go.Abs.InI64 (((i : Nat) : Int) + (1 : Int))))
    (h30 : ((all ++ p) = all')) :
    ∃ ps, stepPs Tryd.prog DS gamV 200 (bodyN Tryd.f5 0) 100 (stSn ll rs s r all n i).st [.is true, .is false, .is false, .is false, .loop (loopL DS (siSn ll rs s' r' all p q n' i (siIn m (0 : Nat))) (.exit 2) (siEd ll rs s' r' all p n' i)), .is false, .is false, .is true] .normal (stSn ll rs s' r' all' n' ((i : Int) + 1)) = some ps ∧ AllQ ps := ⟨_, st_round_r ll rs s r all s' r' all' p q n n' m i, AllP.all ⟨h1, h2, h3, h4, h5, h6, h7, h8, rfl, rfl, rfl, rfl, h9, h10, h11, rfl, rfl, h12, rfl, rfl, rfl, h13, (show ((0 : Int) = (((0 : Nat) : Nat) : Int)) from by decide), h14, h15, h16, rfl, h17, h18, h19, rfl, rfl, rfl, h20, h21, rfl, rfl, rfl, h22, rfl, rfl, rfl, h20, h21, h23, h24, h25, h26, h27, h28, h29, rfl, rfl, rfl, rfl, rfl, rfl, rfl, rfl, h30⟩⟩

theorem st_reset_r (ll : List (List Int)) (rs : Int) (s r all s' r' all' p q : List Int) (n n' m : Int) (i : Nat) : stepPs Tryd.prog DS gamV 200 (bodyN Tryd.f5 0) 100 (stSn ll rs s r all n i).st [.is true, .is false, .is false, .is true, .loop (loopL DS (siSn0 ll rs s' r' p q n' i (siIn m (0 : Nat))) (.exit 2) (siEd0 ll rs s' r' p n' i)), .is false, .is false, .is true] .normal (stSn ll rs s' r' all' n' ((i : Int) + 1)) =
    some [((decide (((i : Nat) : Int) < (((List.length ll) : Nat) : Int))) = Bool.true), ((0 : Int) ≤ ((i : Nat) : Int)), (((i : Nat) : Int) < (((List.length ll) : Nat) : Int)), (Go.Abs.InI64 ((((List.length all) : Nat) : Int) + (((List.length (List.getD ll (Int.toNat ((i : Nat) : Int)) ([] : List (Int)))) : Nat) : Int))), ((decide (((((List.length all) : Nat) : Int) + (((List.length (List.getD ll (Int.toNat ((i : Nat) : Int)) ([] : List (Int)))) : Nat) : Int)) > (16384 : Int))) = Bool.false), ((decide (((i : Nat) : Int) > (40 : Int))) = Bool.false), ((((i : Nat) : Int) == rs) = Bool.true), (s = s), (r = r), (n = n), ((List.length (List.getD ll (Int.toNat ((i : Nat) : Int)) ([] : List (Int)))) ≤ (281474976710656 : Nat)), ((List.getD ll (Int.toNat ((i : Nat) : Int)) ([] : List (Int))) = (List.getD ll (Int.toNat ((i : Nat) : Int)) ([] : List (Int)))), ((List.replicate (8 : Nat) (0 : Int)) = (List.replicate (8 : Nat) (0 : Int))), ((List.replicate (64 : Nat) (0 : Int)) = (List.replicate (64 : Nat) (0 : Int))), ((0 : Int) = (0 : Int)), ((0 : Int) ≤ (0 : Int)), (((0 : Int) + (((List.length (List.getD ll (Int.toNat ((i : Nat) : Int)) ([] : List (Int)))) : Nat) : Int)) ≤ (9223372036854775807 : Int)), SumOK Tryd.prog DS (bodyN Tryd.f5 1) (loopL DS (siSn0 ll rs s' r' p q n' i (siIn m (0 : Nat))) (.exit 2) (siEd0 ll rs s' r' p n' i)), (ll = ll), (rs = rs), ((List.getD ll (Int.toNat ((i : Nat) : Int)) ([] : List (Int))) = p), (ll = ll), ((((List.length ll) : Nat) : Int) = (((List.length ll) : Nat) : Int)), (((i : Nat) : Int) = ((i : Nat) : Int)), ((((List.length (List.getD ll (Int.toNat ((i : Nat) : Int)) ([] : List (Int)))) : Nat) : Int) = m), ((0 : Int) = (((0 : Nat) : Nat) : Int)), ((Go.Num.writeS (List.replicate (8 : Nat) (0 : Int)) (List.replicate (64 : Nat) (0 : Int)) (0 : Nat) (List.getD ll (Int.toNat ((i : Nat) : Int)) ([] : List (Int)))) = s'), ((Go.Num.writeR (List.replicate (8 : Nat) (0 : Int)) (List.replicate (64 : Nat) (0 : Int)) (0 : Nat) (List.getD ll (Int.toNat ((i : Nat) : Int)) ([] : List (Int)))) = r'), (((0 : Int) + (((List.length (List.getD ll (Int.toNat ((i : Nat) : Int)) ([] : List (Int)))) : Nat) : Int)) = n'), ((List.getD ll (Int.toNat ((i : Nat) : Int)) ([] : List (Int))) = q), ((List.length p) ≤ (9223372036854775807 : Nat)), (((List.length p) * (1 : Nat)) ≤ (140737488355328 : Nat)), (s' = s'), (r' = r'), (n' = n'), ((0 : Int) ≤ n'), (n' ≤ (4611686018427387904 : Int)), (s' = s'), (r' = r'), (n' = n'), ((n' != (((List.length p) : Nat) : Int)) = Bool.false), (s' = s'), (r' = r'), (n' = n'), ((0 : Int) ≤ n'), (n' ≤ (4611686018427387904 : Int)), ((!(decide ((Go.Num.sumF s' r' (Int.toNat n')) = (Go.Num.sumF s' r' (Int.toNat n'))))) = Bool.false), (Go.Abs.EqT Go.Proofs.Tryd.prog (27 : Nat)), ((List.length p) ≤ (1000000000 : Nat)), ((decide ((Go.Num.sumF s' r' (Int.toNat n')) = (Go.Num.rfSum p))) = Bool.true), ((List.length (Go.Num.sumF s' r' (Int.toNat n'))) = (32 : Nat)), ((List.length (Go.Num.rfSum p)) ≤ (9223372036854775807 : Nat)), (Go.Abs.InI64 (((i : Nat) : Int) + (1 : Int))), (ll = ll), (rs = rs), (ll = ll), ((((List.length ll) : Nat) : Int) = (((List.length ll) : Nat) : Int)), ((((i : Nat) : Int) + (1 : Int)) = (((i : Nat) : Int) + (1 : Int))), (s' = s'), (r' = r'), (n' = n'), (p = all')] := by kernel_rfl
theorem st_reset (ll : List (List Int)) (rs : Int) (s r all s' r' all' p q : List Int) (n n' m : Int) (i : Nat)
    (h1 : ((decide (((i : Nat) : Int) < (((List.length ll) : Nat) : Int))) = Bool.true))
    (h2 : ((0 : Int) ≤ ((i : Nat) : Int)))
    (h3 : (((i : Nat) : Int) < (((List.length ll) : Nat) : Int)))
    (h4 : (Go.Abs.InI64 ((((List.length all) : Nat) : Int) + (((List.length (List.getD ll (Int.toNat ((i : Nat) : Int)) ([] : List (Int)))) : Nat) : Int))))
    (h5 : ((decide (((((List.length all) : Nat) : Int) + (((List.length (List.getD ll (Int.toNat ((i : Nat) : Int)) ([] : List (Int)))) : Nat) : Int)) > (16384 : Int))) = Bool.false))
    (h6 : ((decide (((i : Nat) : Int) > (40 : Int))) = Bool.false))
    (h7 : ((((i : Nat) : Int) == rs) = Bool.true))
    (h8 : ((List.length (List.getD ll (Int.toNat ((i : Nat) : Int)) ([] : List (Int)))) ≤ (281474976710656 : Nat)))
    (h9 : (((0 : Int) + (((List.length (List.getD ll (Int.toNat ((i : Nat) : Int)) ([] : List (Int)))) : Nat) : Int)) ≤ (9223372036854775807 : Int)))
    (h10 : SumOK Tryd.prog DS (bodyN Tryd.f5 1) (loopL DS (siSn0 ll rs s' r' p q n' i (siIn m (0 : Nat))) (.exit 2) (siEd0 ll rs s' r' p n' i)))
    (h11 : ((List.getD ll (Int.toNat ((i : Nat) : Int)) ([] : List (Int))) = p))
    (h12 : ((((List.length (List.getD ll (Int.toNat ((i : Nat) : Int)) ([] : List (Int)))) : Nat) : Int) = m))
    (h13 : ((Go.Num.writeS (List.replicate (8 : Nat) (0 : Int)) (List.replicate (64 : Nat) (0 : Int)) (0 : Nat) (List.getD ll (Int.toNat ((i : Nat) : Int)) ([] : List (Int)))) = s'))
    (h14 : ((Go.Num.writeR (List.replicate (8 : Nat) (0 : Int)) (List.replicate (64 : Nat) (0 : Int)) (0 : Nat) (List.getD ll (Int.toNat ((i : Nat) : Int)) ([] : List (Int)))) = r'))
    (h15 : (((0 : Int) + (((List.length (List.getD ll (Int.toNat ((i : Nat) : Int)) ([] : List (Int)))) : Nat) : Int)) = n'))
    (h16 : ((List.getD ll (Int.toNat ((i : Nat) : Int)) ([] : List (Int))) = q))
    (h17 : ((List.length p) ≤ (9223372036854775807 : Nat)))
    (h18 : (((List.length p) * (1 : Nat)) ≤ (140737488355328 : Nat)))
    (h19 : ((0 : Int) ≤ n'))
    (h20 : (n' ≤ (4611686018427387904 : Int)))
    (h21 : ((n' != (((List.length p) : Nat) : Int)) = Bool.false))
    (h22 : ((!(decide ((Go.Num.sumF s' r' (Int.toNat n')) = (Go.Num.sumF s' r' (Int.toNat n'))))) = Bool.false))
    (h23 : (Go.Abs.EqT Go.Proofs.Tryd.prog (27 : Nat)))
    (h24 : ((List.length p) ≤ (1000000000 : Nat)))
    (h25 : ((decide ((Go.Num.sumF s' r' (Int.toNat n')) = (Go.Num.rfSum p))) = Bool.true))
    (h26 : ((List.length (Go.Num.sumF s' r' (Int.toNat n'))) = (32 : Nat)))
    (h27 : ((List.length (Go.Num.rfSum p)) ≤ (9223372036854775807 : Nat)))
    (h28 : (Go.Abs.InI64 (((i : Nat) : Int) + (1 : Int))))
    (h29 : (p = all')) :
    ∃ ps, stepPs Tryd.prog DS gamV 200 (bodyN Tryd.f5 0) 100 (stSn ll rs s r all n i).st [.is true, .is false, .is false, .is true, .loop (loopL DS (siSn0 ll rs s' r' p q n' i (siIn m (0 : Nat))) (.exit 2) (siEd0 ll rs s' r' p n' i)), .is false, .is false, .is true] .normal (stSn ll rs s' r' all' n' ((i : Int) + 1)) = some ps ∧ AllQ ps := ⟨_, st_reset_r ll rs s r all s' r' all' p q n n' m i, AllP.all ⟨h1, h2, h3, h4, h5, h6, h7, rfl, rfl, rfl, h8, rfl, rfl, rfl, rfl, (show ((0 : Int) ≤ (0 : Int)) from by decide), h9, h10, rfl, rfl, h11, rfl, rfl, rfl, h12, (show ((0 : Int) = (((0 : Nat) : Nat) : Int)) from by decide), h13, h14, h15, h16, h17, h18, rfl, rfl, rfl, h19, h20, rfl, rfl, rfl, h21, rfl, rfl, rfl, h19, h20, h22, h23, h24, h25, h26, h27, h28, rfl, rfl, rfl, rfl, rfl, rfl, rfl, rfl, h29⟩⟩

theorem st_big_r (ll : List (List Int)) (rs : Int) (s r all : List Int) (n : Int) (i : Nat) : stepPs Tryd.prog DS gamV 200 (bodyN Tryd.f5 0) 100 (stSn ll rs s r all n i).st [.is true, .is true] .ret stEnd =
    some [((decide (((i : Nat) : Int) < (((List.length ll) : Nat) : Int))) = Bool.true), ((0 : Int) ≤ ((i : Nat) : Int)), (((i : Nat) : Int) < (((List.length ll) : Nat) : Int)), (Go.Abs.InI64 ((((List.length all) : Nat) : Int) + (((List.length (List.getD ll (Int.toNat ((i : Nat) : Int)) ([] : List (Int)))) : Nat) : Int))), ((decide (((((List.length all) : Nat) : Int) + (((List.length (List.getD ll (Int.toNat ((i : Nat) : Int)) ([] : List (Int)))) : Nat) : Int)) > (16384 : Int))) = Bool.true)] := by kernel_rfl
theorem st_big (ll : List (List Int)) (rs : Int) (s r all : List Int) (n : Int) (i : Nat)
    (h1 : ((decide (((i : Nat) : Int) < (((List.length ll) : Nat) : Int))) = Bool.true))
    (h2 : ((0 : Int) ≤ ((i : Nat) : Int)))
    (h3 : (((i : Nat) : Int) < (((List.length ll) : Nat) : Int)))
    (h4 : (Go.Abs.InI64 ((((List.length all) : Nat) : Int) + (((List.length (List.getD ll (Int.toNat ((i : Nat) : Int)) ([] : List (Int)))) : Nat) : Int))))
    (h5 : ((decide (((((List.length all) : Nat) : Int) + (((List.length (List.getD ll (Int.toNat ((i : Nat) : Int)) ([] : List (Int)))) : Nat) : Int)) > (16384 : Int))) = Bool.true)) :
    ∃ ps, stepPs Tryd.prog DS gamV 200 (bodyN Tryd.f5 0) 100 (stSn ll rs s r all n i).st [.is true, .is true] .ret stEnd = some ps ∧ AllQ ps := ⟨_, st_big_r ll rs s r all n i, AllP.all ⟨h1, h2, h3, h4, h5⟩⟩

theorem st_many_r (ll : List (List Int)) (rs : Int) (s r all : List Int) (n : Int) (i : Nat) : stepPs Tryd.prog DS gamV 200 (bodyN Tryd.f5 0) 100 (stSn ll rs s r all n i).st [.is true, .is false, .is true] .ret stEnd =
    some [((decide (((i : Nat) : Int) < (((List.length ll) : Nat) : Int))) = Bool.true), ((0 : Int) ≤ ((i : Nat) : Int)), (((i : Nat) : Int) < (((List.length ll) : Nat) : Int)), (Go.Abs.InI64 ((((List.length all) : Nat) : Int) + (((List.length (List.getD ll (Int.toNat ((i : Nat) : Int)) ([] : List (Int)))) : Nat) : Int))), ((decide (((((List.length all) : Nat) : Int) + (((List.length (List.getD ll (Int.toNat ((i : Nat) : Int)) ([] : List (Int)))) : Nat) : Int)) > (16384 : Int))) = Bool.false), ((decide (((i : Nat) : Int) > (40 : Int))) = Bool.true)] := by kernel_rfl
theorem st_many (ll : List (List Int)) (rs : Int) (s r all : List Int) (n : Int) (i : Nat)
    (h1 : ((decide (((i : Nat) : Int) < (((List.length ll) : Nat) : Int))) = Bool.true))
    (h2 : ((0 : Int) ≤ ((i : Nat) : Int)))
    (h3 : (((i : Nat) : Int) < (((List.length ll) : Nat) : Int)))
    (h4 : (Go.Abs.InI64 ((((List.length all) : Nat) : Int) + (((List.length (List.getD ll (Int.toNat ((i : Nat) : Int)) ([] : List (Int)))) : Nat) : Int))))
    (h5 : ((decide (((((List.length all) : Nat) : Int) + (((List.length (List.getD ll (Int.toNat ((i : Nat) : Int)) ([] : List (Int)))) : Nat) : Int)) > (16384 : Int))) = Bool.false))
    (h6 : ((decide (((i : Nat) : Int) > (40 : Int))) = Bool.true)) :
    ∃ ps, stepPs Tryd.prog DS gamV 200 (bodyN Tryd.f5 0) 100 (stSn ll rs s r all n i).st [.is true, .is false, .is true] .ret stEnd = some ps ∧ AllQ ps := ⟨_, st_many_r ll rs s r all n i, AllP.all ⟨h1, h2, h3, h4, h5, h6⟩⟩

theorem st_exit_r (ll : List (List Int)) (rs : Int) (s r all : List Int) (n : Int) (i : Nat) : stepPs Tryd.prog DS gamV 200 (bodyN Tryd.f5 0) 100 (stSn ll rs s r all n i).st [.is false] (.exit 0) ⟨[], [], 96, 0⟩ =
    some [((decide (((i : Nat) : Int) < (((List.length ll) : Nat) : Int))) = Bool.false)] := by kernel_rfl
theorem st_exit (ll : List (List Int)) (rs : Int) (s r all : List Int) (n : Int) (i : Nat)
    (h1 : ((decide (((i : Nat) : Int) < (((List.length ll) : Nat) : Int))) = Bool.false)) :
    ∃ ps, stepPs Tryd.prog DS gamV 200 (bodyN Tryd.f5 0) 100 (stSn ll rs s r all n i).st [.is false] (.exit 0) ⟨[], [], 96, 0⟩ = some ps ∧ AllQ ps := ⟨_, st_exit_r ll rs s r all n i, AllP.all h1⟩

theorem st_ret_r (ll : List (List Int)) (rs : Int) (s0 r0 : List Int) : runF Tryd.prog DS gamV 200 Tryd.f5 [.one (.wordss .u8 ll), .one (.int .i64 false rs)] [.loop (loopL DS (stSn ll rs s0 r0 [] 0 (0 : Nat)) .ret stEnd)] =
    some ((Go.Abs.AV.v (Go.Abs.A0.one (Go.Abs.Part.bool Bool.true Bool.true))), [SumOK Tryd.prog DS (bodyN Tryd.f5 0) (loopL DS (stSn ll rs s0 r0 [] 0 (0 : Nat)) .ret stEnd), (ll = ll), (rs = rs), (ll = ll), ((((List.length ll) : Nat) : Int) = (((List.length ll) : Nat) : Int)), ((0 : Int) = (((0 : Nat) : Nat) : Int)), ((List.replicate (8 : Nat) (0 : Int)) = s0), ((List.replicate (64 : Nat) (0 : Int)) = r0), ((0 : Int) = (0 : Int)), (([] : List (Int)) = ([] : List (Int)))]) := by kernel_rfl
theorem st_ret (ll : List (List Int)) (rs : Int) (s0 r0 : List Int)
    (h1 : SumOK Tryd.prog DS (bodyN Tryd.f5 0) (loopL DS (stSn ll rs s0 r0 [] 0 (0 : Nat)) .ret stEnd))
    (h2 : ((List.replicate (8 : Nat) (0 : Int)) = s0))
    (h3 : ((List.replicate (64 : Nat) (0 : Int)) = r0)) :
    ∃ ps, runF Tryd.prog DS gamV 200 Tryd.f5 [.one (.wordss .u8 ll), .one (.int .i64 false rs)] [.loop (loopL DS (stSn ll rs s0 r0 [] 0 (0 : Nat)) .ret stEnd)] = some ((Go.Abs.AV.v (Go.Abs.A0.one (Go.Abs.Part.bool Bool.true Bool.true))), ps) ∧ AllQ ps := ⟨_, st_ret_r ll rs s0 r0, AllP.all ⟨h1, rfl, rfl, rfl, rfl, (show ((0 : Int) = (((0 : Nat) : Nat) : Int)) from by decide), h2, h3, rfl, rfl⟩⟩

theorem st_end_r (ll : List (List Int)) (rs : Int) (s0 r0 : List Int) : runF Tryd.prog DS gamV 200 Tryd.f5 [.one (.wordss .u8 ll), .one (.int .i64 false rs)] [.loop (loopL DS (stSn ll rs s0 r0 [] 0 (0 : Nat)) (.exit 0) ⟨[], [], 96, 0⟩), .is true, .is true] =
    some ((Go.Abs.AV.v (Go.Abs.A0.one (Go.Abs.Part.bool Bool.true Bool.true))), [SumOK Tryd.prog DS (bodyN Tryd.f5 0) (loopL DS (stSn ll rs s0 r0 [] 0 (0 : Nat)) (.exit 0) ⟨[], [], 96, 0⟩), (ll = ll), (rs = rs), (ll = ll), ((((List.length ll) : Nat) : Int) = (((List.length ll) : Nat) : Int)), ((0 : Int) = (((0 : Nat) : Nat) : Int)), ((List.replicate (8 : Nat) (0 : Int)) = s0), ((List.replicate (64 : Nat) (0 : Int)) = r0), ((0 : Int) = (0 : Int)), (([] : List (Int)) = ([] : List (Int))), (((1 : Int) :: ([] : List (Int))) = ((1 : Int) :: ([] : List (Int)))), (((0 : Int) == (0 : Int)) = Bool.true), ((decide ((List.replicate (32 : Nat) (0 : Int)) = ((0 : Int) :: ((0 : Int) :: ((0 : Int) :: ((0 : Int) :: ((0 : Int) :: ((0 : Int) :: ((0 : Int) :: ((0 : Int) :: ((0 : Int) :: ((0 : Int) :: ((0 : Int) :: ((0 : Int) :: ((0 : Int) :: ((0 : Int) :: ((0 : Int) :: ((0 : Int) :: ((0 : Int) :: ((0 : Int) :: ((0 : Int) :: ((0 : Int) :: ((0 : Int) :: ((0 : Int) :: ((0 : Int) :: ((0 : Int) :: ((0 : Int) :: ((0 : Int) :: ((0 : Int) :: ((0 : Int) :: ((0 : Int) :: ((0 : Int) :: ((0 : Int) :: ((0 : Int) :: ([] : List (Int)))))))))))))))))))))))))))))))))))) = Bool.true), (Go.Abs.EqT Go.Proofs.Tryd.prog (27 : Nat))]) := by kernel_rfl
theorem st_end (ll : List (List Int)) (rs : Int) (s0 r0 : List Int)
    (h1 : SumOK Tryd.prog DS (bodyN Tryd.f5 0) (loopL DS (stSn ll rs s0 r0 [] 0 (0 : Nat)) (.exit 0) ⟨[], [], 96, 0⟩))
    (h2 : ((List.replicate (8 : Nat) (0 : Int)) = s0))
    (h3 : ((List.replicate (64 : Nat) (0 : Int)) = r0))
    (h4 : (Go.Abs.EqT Go.Proofs.Tryd.prog (27 : Nat))) :
    ∃ ps, runF Tryd.prog DS gamV 200 Tryd.f5 [.one (.wordss .u8 ll), .one (.int .i64 false rs)] [.loop (loopL DS (stSn ll rs s0 r0 [] 0 (0 : Nat)) (.exit 0) ⟨[], [], 96, 0⟩), .is true, .is true] = some ((Go.Abs.AV.v (Go.Abs.A0.one (Go.Abs.Part.bool Bool.true Bool.true))), ps) ∧ AllQ ps := ⟨_, st_end_r ll rs s0 r0, AllP.all ⟨h1, rfl, rfl, rfl, rfl, (show ((0 : Int) = (((0 : Nat) : Nat) : Int)) from by decide), h2, h3, rfl, rfl, rfl, (show (((0 : Int) == (0 : Int)) = Bool.true) from by decide), (show ((decide ((List.replicate (32 : Nat) (0 : Int)) = ((0 : Int) :: ((0 : Int) :: ((0 : Int) :: ((0 : Int) :: ((0 : Int) :: ((0 : Int) :: ((0 : Int) :: ((0 : Int) :: ((0 : Int) :: ((0 : Int) :: ((0 : Int) :: ((0 : Int) :: ((0 : Int) :: ((0 : Int) :: ((0 : Int) :: ((0 : Int) :: ((0 : Int) :: ((0 : Int) :: ((0 : Int) :: ((0 : Int) :: ((0 : Int) :: ((0 : Int) :: ((0 : Int) :: ((0 : Int) :: ((0 : Int) :: ((0 : Int) :: ((0 : Int) :: ((0 : Int) :: ((0 : Int) :: ((0 : Int) :: ((0 : Int) :: ((0 : Int) :: ([] : List (Int)))))))))))))))))))))))))))))))))))) = Bool.true) from by decide), h4⟩⟩

end Go.Num

/- Disk: DiskApart: the runs. -/
import Derived.Test.YtakigppkbolmnaaD16
namespace Go.Num
open Go.Abs Go.Proofs Go.Shelf Go.RowKit

def opSh : List FK := [.int .i64, .str, .str, .words .u8, .int .i64, .words .i64]
def opOf (r : Rec) : OpT := ⟨recI r 0, recS r 1, recS r 2, recW r 3, recI r 4, recW r 5⟩
noncomputable def gAp : Gam DF := (26, .op [true, false] doQ) :: gDh
theorem gAp_ok : GamOK Try.prog DF gAp := gam_op do_ok gDh_ok

def apSn (a : List Int) (sc : List Rec) (d : DkT) (i : Int) : Sn DF.τ where
  slots := [(0, .v (.one (.words .u8 a))), (1, .v (.one (.prs opSh sc))), (5, .v (.one (.ref 0 0))), (6, .v (.one (.int .i64 false i)))]
  boxes := enumB 0 (dkBt d)
  nt := 97
def apEnd (a : List Int) (sc : List Rec) (d : DkT) : Sn DF.τ where
  slots := [(0, .v (.one (.words .u8 a))), (5, .v (.one (.ref 0 0)))]
  boxes := enumB 0 (dkBt d)
  nt := 97
theorem ap_s1 (a : List Int) (sc : List Rec) (d : DkT) (i i' : Int)
 (h1 : ((decide (i < (((List.length sc) : Nat) : Int))) = Bool.true))
 (h2 : ((decide (i < (60 : Int))) = Bool.true))
 (h3 : ((0 : Int) ≤ i))
 (h4 : (i < (((List.length sc) : Nat) : Int)))
 (h5 : ((decide ((Go.Abs.recS (List.getD sc (Int.toNat i) ([] : List (Abs.Fd))) ((0 : Nat) + (1 : Nat))) = (ByteArray.mk (Array.mk [(111 : UInt8), (119 : UInt8), (110 : UInt8)])))) = Bool.true))
 (h6 : (Go.Abs.InI64 (i + (1 : Int))))
 (h7 : ((i + (1 : Int)) = i')) :
 ∃ ps, stepPs Try.prog DF gAp 100 (bodyN Try.f6 0) 100 (apSn a sc d i).st [.is true, .is true, .is true] .normal (apSn a sc d i') = some ps ∧ AllQ ps := ⟨_, by kernel_rfl, allQ_cons h1 (allQ_cons h2 (allQ_cons h3 (allQ_cons h4 (allQ_cons h5 (allQ_cons h6 (allQ_cons (show (a = a) from rfl) (allQ_cons (show (sc = sc) from rfl) (allQ_cons h7 (allQ_cons (show ((d).1 = (d).1) from rfl) (allQ_cons (show (((d).2).1 = ((d).2).1) from rfl) (allQ_cons (show ((((d).2).2).1 = (((d).2).2).1) from rfl) (allQ_cons (show (((((d).2).2).2).1 = ((((d).2).2).2).1) from rfl) (allQ_cons (show (((((d).2).2).2).2 = ((((d).2).2).2).2) from rfl) (allQ_nil))))))))))))))⟩

theorem ap_s2 (a : List Int) (sc : List Rec) (d : DkT) (i i' : Int)
 (h1 : ((decide (i < (((List.length sc) : Nat) : Int))) = Bool.true))
 (h2 : ((decide (i < (60 : Int))) = Bool.true))
 (h3 : ((0 : Int) ≤ i))
 (h4 : (i < (((List.length sc) : Nat) : Int)))
 (h5 : ((decide ((Go.Abs.recS (List.getD sc (Int.toNat i) ([] : List (Abs.Fd))) ((0 : Nat) + (1 : Nat))) = (ByteArray.mk (Array.mk [(111 : UInt8), (119 : UInt8), (110 : UInt8)])))) = Bool.false))
 (h6 : ((decide ((Go.Abs.recS (List.getD sc (Int.toNat i) ([] : List (Abs.Fd))) (((0 : Nat) + (1 : Nat)) + (1 : Nat))) = (ByteArray.mk (Array.mk [(111 : UInt8), (119 : UInt8), (110 : UInt8)])))) = Bool.true))
 (h7 : (Go.Abs.InI64 (i + (1 : Int))))
 (h8 : ((i + (1 : Int)) = i')) :
 ∃ ps, stepPs Try.prog DF gAp 100 (bodyN Try.f6 0) 100 (apSn a sc d i).st [.is true, .is true, .is false, .is true] .normal (apSn a sc d i') = some ps ∧ AllQ ps := ⟨_, by kernel_rfl, allQ_cons h1 (allQ_cons h2 (allQ_cons h3 (allQ_cons h4 (allQ_cons h5 (allQ_cons h6 (allQ_cons h7 (allQ_cons (show (a = a) from rfl) (allQ_cons (show (sc = sc) from rfl) (allQ_cons h8 (allQ_cons (show ((d).1 = (d).1) from rfl) (allQ_cons (show (((d).2).1 = ((d).2).1) from rfl) (allQ_cons (show ((((d).2).2).1 = (((d).2).2).1) from rfl) (allQ_cons (show (((((d).2).2).2).1 = ((((d).2).2).2).1) from rfl) (allQ_cons (show (((((d).2).2).2).2 = ((((d).2).2).2).2) from rfl) (allQ_nil)))))))))))))))⟩

theorem ap_s3 (a : List Int) (sc : List Rec) (d : DkT) (i i' : Int)
 (h1 : ((decide (i < (((List.length sc) : Nat) : Int))) = Bool.true))
 (h2 : ((decide (i < (60 : Int))) = Bool.true))
 (h3 : ((0 : Int) ≤ i))
 (h4 : (i < (((List.length sc) : Nat) : Int)))
 (h5 : ((decide ((Go.Abs.recS (List.getD sc (Int.toNat i) ([] : List (Abs.Fd))) ((0 : Nat) + (1 : Nat))) = (ByteArray.mk (Array.mk [(111 : UInt8), (119 : UInt8), (110 : UInt8)])))) = Bool.false))
 (h6 : ((decide ((Go.Abs.recS (List.getD sc (Int.toNat i) ([] : List (Abs.Fd))) (((0 : Nat) + (1 : Nat)) + (1 : Nat))) = (ByteArray.mk (Array.mk [(111 : UInt8), (119 : UInt8), (110 : UInt8)])))) = Bool.false))
 (h7 : (((Go.Abs.recI (List.getD sc (Int.toNat i) ([] : List (Abs.Fd))) (0 : Nat)) == (7 : Int)) = Bool.true))
 (h8 : (Go.Abs.InI64 (i + (1 : Int))))
 (h9 : ((i + (1 : Int)) = i')) :
 ∃ ps, stepPs Try.prog DF gAp 100 (bodyN Try.f6 0) 100 (apSn a sc d i).st [.is true, .is true, .is false, .is false, .is true] .normal (apSn a sc d i') = some ps ∧ AllQ ps := ⟨_, by kernel_rfl, allQ_cons h1 (allQ_cons h2 (allQ_cons h3 (allQ_cons h4 (allQ_cons h5 (allQ_cons h6 (allQ_cons h7 (allQ_cons h8 (allQ_cons (show (a = a) from rfl) (allQ_cons (show (sc = sc) from rfl) (allQ_cons h9 (allQ_cons (show ((d).1 = (d).1) from rfl) (allQ_cons (show (((d).2).1 = ((d).2).1) from rfl) (allQ_cons (show ((((d).2).2).1 = (((d).2).2).1) from rfl) (allQ_cons (show (((((d).2).2).2).1 = ((((d).2).2).2).1) from rfl) (allQ_cons (show (((((d).2).2).2).2 = ((((d).2).2).2).2) from rfl) (allQ_nil))))))))))))))))⟩

theorem ap_do (a : List Int) (sc : List Rec) (d d' : DkT) (i i' : Int)
 (h1 : ((decide (i < (((List.length sc) : Nat) : Int))) = Bool.true))
 (h2 : ((decide (i < (60 : Int))) = Bool.true))
 (h3 : ((0 : Int) ≤ i))
 (h4 : (i < (((List.length sc) : Nat) : Int)))
 (h5 : ((decide ((Go.Abs.recS (List.getD sc (Int.toNat i) ([] : List (Abs.Fd))) ((0 : Nat) + (1 : Nat))) = (ByteArray.mk (Array.mk [(111 : UInt8), (119 : UInt8), (110 : UInt8)])))) = Bool.false))
 (h6 : ((decide ((Go.Abs.recS (List.getD sc (Int.toNat i) ([] : List (Abs.Fd))) (((0 : Nat) + (1 : Nat)) + (1 : Nat))) = (ByteArray.mk (Array.mk [(111 : UInt8), (119 : UInt8), (110 : UInt8)])))) = Bool.false))
 (h7 : (((Go.Abs.recI (List.getD sc (Int.toNat i) ([] : List (Abs.Fd))) (0 : Nat)) == (7 : Int)) = Bool.false))
 (h8 : (Go.Num.DkOK d))
 (h9 : (Go.Num.OpOk (Go.Num.OpT.mk (Go.Abs.recI (List.getD sc (Int.toNat i) ([] : List (Abs.Fd))) (0 : Nat)) (Go.Abs.recS (List.getD sc (Int.toNat i) ([] : List (Abs.Fd))) ((0 : Nat) + (1 : Nat))) (Go.Abs.recS (List.getD sc (Int.toNat i) ([] : List (Abs.Fd))) (((0 : Nat) + (1 : Nat)) + (1 : Nat))) (Go.Abs.recW (List.getD sc (Int.toNat i) ([] : List (Abs.Fd))) ((((0 : Nat) + (1 : Nat)) + (1 : Nat)) + (1 : Nat))) (Go.Abs.recI (List.getD sc (Int.toNat i) ([] : List (Abs.Fd))) (((((0 : Nat) + (1 : Nat)) + (1 : Nat)) + (1 : Nat)) + (1 : Nat))) (Go.Abs.recW (List.getD sc (Int.toNat i) ([] : List (Abs.Fd))) ((((((0 : Nat) + (1 : Nat)) + (1 : Nat)) + (1 : Nat)) + (1 : Nat)) + (1 : Nat))))))
 (h10 : (Go.Abs.InI64 (i + (1 : Int))))
 (h11 : ((i + (1 : Int)) = i'))
 (h12 : (((((Go.Num.doM d (Go.Num.OpT.mk (Go.Abs.recI (List.getD sc (Int.toNat i) ([] : List (Abs.Fd))) (0 : Nat)) (Go.Abs.recS (List.getD sc (Int.toNat i) ([] : List (Abs.Fd))) ((0 : Nat) + (1 : Nat))) (Go.Abs.recS (List.getD sc (Int.toNat i) ([] : List (Abs.Fd))) (((0 : Nat) + (1 : Nat)) + (1 : Nat))) (Go.Abs.recW (List.getD sc (Int.toNat i) ([] : List (Abs.Fd))) ((((0 : Nat) + (1 : Nat)) + (1 : Nat)) + (1 : Nat))) (Go.Abs.recI (List.getD sc (Int.toNat i) ([] : List (Abs.Fd))) (((((0 : Nat) + (1 : Nat)) + (1 : Nat)) + (1 : Nat)) + (1 : Nat))) (Go.Abs.recW (List.getD sc (Int.toNat i) ([] : List (Abs.Fd))) ((((((0 : Nat) + (1 : Nat)) + (1 : Nat)) + (1 : Nat)) + (1 : Nat)) + (1 : Nat)))))).2).2).1 = (d').1))
 (h13 : ((((((Go.Num.doM d (Go.Num.OpT.mk (Go.Abs.recI (List.getD sc (Int.toNat i) ([] : List (Abs.Fd))) (0 : Nat)) (Go.Abs.recS (List.getD sc (Int.toNat i) ([] : List (Abs.Fd))) ((0 : Nat) + (1 : Nat))) (Go.Abs.recS (List.getD sc (Int.toNat i) ([] : List (Abs.Fd))) (((0 : Nat) + (1 : Nat)) + (1 : Nat))) (Go.Abs.recW (List.getD sc (Int.toNat i) ([] : List (Abs.Fd))) ((((0 : Nat) + (1 : Nat)) + (1 : Nat)) + (1 : Nat))) (Go.Abs.recI (List.getD sc (Int.toNat i) ([] : List (Abs.Fd))) (((((0 : Nat) + (1 : Nat)) + (1 : Nat)) + (1 : Nat)) + (1 : Nat))) (Go.Abs.recW (List.getD sc (Int.toNat i) ([] : List (Abs.Fd))) ((((((0 : Nat) + (1 : Nat)) + (1 : Nat)) + (1 : Nat)) + (1 : Nat)) + (1 : Nat)))))).2).2).2).1 = ((d').2).1))
 (h14 : (((((((Go.Num.doM d (Go.Num.OpT.mk (Go.Abs.recI (List.getD sc (Int.toNat i) ([] : List (Abs.Fd))) (0 : Nat)) (Go.Abs.recS (List.getD sc (Int.toNat i) ([] : List (Abs.Fd))) ((0 : Nat) + (1 : Nat))) (Go.Abs.recS (List.getD sc (Int.toNat i) ([] : List (Abs.Fd))) (((0 : Nat) + (1 : Nat)) + (1 : Nat))) (Go.Abs.recW (List.getD sc (Int.toNat i) ([] : List (Abs.Fd))) ((((0 : Nat) + (1 : Nat)) + (1 : Nat)) + (1 : Nat))) (Go.Abs.recI (List.getD sc (Int.toNat i) ([] : List (Abs.Fd))) (((((0 : Nat) + (1 : Nat)) + (1 : Nat)) + (1 : Nat)) + (1 : Nat))) (Go.Abs.recW (List.getD sc (Int.toNat i) ([] : List (Abs.Fd))) ((((((0 : Nat) + (1 : Nat)) + (1 : Nat)) + (1 : Nat)) + (1 : Nat)) + (1 : Nat)))))).2).2).2).2).1 = (((d').2).2).1))
 (h15 : ((((((((Go.Num.doM d (Go.Num.OpT.mk (Go.Abs.recI (List.getD sc (Int.toNat i) ([] : List (Abs.Fd))) (0 : Nat)) (Go.Abs.recS (List.getD sc (Int.toNat i) ([] : List (Abs.Fd))) ((0 : Nat) + (1 : Nat))) (Go.Abs.recS (List.getD sc (Int.toNat i) ([] : List (Abs.Fd))) (((0 : Nat) + (1 : Nat)) + (1 : Nat))) (Go.Abs.recW (List.getD sc (Int.toNat i) ([] : List (Abs.Fd))) ((((0 : Nat) + (1 : Nat)) + (1 : Nat)) + (1 : Nat))) (Go.Abs.recI (List.getD sc (Int.toNat i) ([] : List (Abs.Fd))) (((((0 : Nat) + (1 : Nat)) + (1 : Nat)) + (1 : Nat)) + (1 : Nat))) (Go.Abs.recW (List.getD sc (Int.toNat i) ([] : List (Abs.Fd))) ((((((0 : Nat) + (1 : Nat)) + (1 : Nat)) + (1 : Nat)) + (1 : Nat)) + (1 : Nat)))))).2).2).2).2).2).1 = ((((d').2).2).2).1))
 (h16 : ((((((((Go.Num.doM d (Go.Num.OpT.mk (Go.Abs.recI (List.getD sc (Int.toNat i) ([] : List (Abs.Fd))) (0 : Nat)) (Go.Abs.recS (List.getD sc (Int.toNat i) ([] : List (Abs.Fd))) ((0 : Nat) + (1 : Nat))) (Go.Abs.recS (List.getD sc (Int.toNat i) ([] : List (Abs.Fd))) (((0 : Nat) + (1 : Nat)) + (1 : Nat))) (Go.Abs.recW (List.getD sc (Int.toNat i) ([] : List (Abs.Fd))) ((((0 : Nat) + (1 : Nat)) + (1 : Nat)) + (1 : Nat))) (Go.Abs.recI (List.getD sc (Int.toNat i) ([] : List (Abs.Fd))) (((((0 : Nat) + (1 : Nat)) + (1 : Nat)) + (1 : Nat)) + (1 : Nat))) (Go.Abs.recW (List.getD sc (Int.toNat i) ([] : List (Abs.Fd))) ((((((0 : Nat) + (1 : Nat)) + (1 : Nat)) + (1 : Nat)) + (1 : Nat)) + (1 : Nat)))))).2).2).2).2).2).2 = ((((d').2).2).2).2)) :
 ∃ ps, stepPs Try.prog DF gAp 100 (bodyN Try.f6 0) 100 (apSn a sc d i).st [.is true, .is true, .is false, .is false, .is false] .normal (apSn a sc d' i') = some ps ∧ AllQ ps := ⟨_, by kernel_rfl, allQ_cons h1 (allQ_cons h2 (allQ_cons h3 (allQ_cons h4 (allQ_cons h5 (allQ_cons h6 (allQ_cons h7 (allQ_cons (show ((Go.Abs.recI (List.getD sc (Int.toNat i) ([] : List (Abs.Fd))) (0 : Nat)) = (Go.Abs.recI (List.getD sc (Int.toNat i) ([] : List (Abs.Fd))) (0 : Nat))) from rfl) (allQ_cons (show ((Go.Abs.recS (List.getD sc (Int.toNat i) ([] : List (Abs.Fd))) ((0 : Nat) + (1 : Nat))) = (Go.Abs.recS (List.getD sc (Int.toNat i) ([] : List (Abs.Fd))) ((0 : Nat) + (1 : Nat)))) from rfl) (allQ_cons (show ((Go.Abs.recS (List.getD sc (Int.toNat i) ([] : List (Abs.Fd))) (((0 : Nat) + (1 : Nat)) + (1 : Nat))) = (Go.Abs.recS (List.getD sc (Int.toNat i) ([] : List (Abs.Fd))) (((0 : Nat) + (1 : Nat)) + (1 : Nat)))) from rfl) (allQ_cons (show ((Go.Abs.recW (List.getD sc (Int.toNat i) ([] : List (Abs.Fd))) ((((0 : Nat) + (1 : Nat)) + (1 : Nat)) + (1 : Nat))) = (Go.Abs.recW (List.getD sc (Int.toNat i) ([] : List (Abs.Fd))) ((((0 : Nat) + (1 : Nat)) + (1 : Nat)) + (1 : Nat)))) from rfl) (allQ_cons (show ((Go.Abs.recI (List.getD sc (Int.toNat i) ([] : List (Abs.Fd))) (((((0 : Nat) + (1 : Nat)) + (1 : Nat)) + (1 : Nat)) + (1 : Nat))) = (Go.Abs.recI (List.getD sc (Int.toNat i) ([] : List (Abs.Fd))) (((((0 : Nat) + (1 : Nat)) + (1 : Nat)) + (1 : Nat)) + (1 : Nat)))) from rfl) (allQ_cons (show ((Go.Abs.recW (List.getD sc (Int.toNat i) ([] : List (Abs.Fd))) ((((((0 : Nat) + (1 : Nat)) + (1 : Nat)) + (1 : Nat)) + (1 : Nat)) + (1 : Nat))) = (Go.Abs.recW (List.getD sc (Int.toNat i) ([] : List (Abs.Fd))) ((((((0 : Nat) + (1 : Nat)) + (1 : Nat)) + (1 : Nat)) + (1 : Nat)) + (1 : Nat)))) from rfl) (allQ_cons (show ((d).1 = (d).1) from rfl) (allQ_cons (show (((d).2).1 = ((d).2).1) from rfl) (allQ_cons (show ((((d).2).2).1 = (((d).2).2).1) from rfl) (allQ_cons (show (((((d).2).2).2).1 = ((((d).2).2).2).1) from rfl) (allQ_cons (show (((((d).2).2).2).2 = ((((d).2).2).2).2) from rfl) (allQ_cons h8 (allQ_cons h9 (allQ_cons h10 (allQ_cons (show (a = a) from rfl) (allQ_cons (show (sc = sc) from rfl) (allQ_cons h11 (allQ_cons h12 (allQ_cons h13 (allQ_cons h14 (allQ_cons h15 (allQ_cons h16 (allQ_nil)))))))))))))))))))))))))))))⟩

theorem ap_e1 (a : List Int) (sc : List Rec) (d : DkT) (i : Int)
 (h1 : ((decide (i < (((List.length sc) : Nat) : Int))) = Bool.false)) :
 ∃ ps, stepPs Try.prog DF gAp 100 (bodyN Try.f6 0) 100 (apSn a sc d i).st [.is false] (.exit 0) (apEnd a sc d) = some ps ∧ AllQ ps := ⟨_, by kernel_rfl, allQ_cons h1 (allQ_cons (show (a = a) from rfl) (allQ_cons (show ((d).1 = (d).1) from rfl) (allQ_cons (show (((d).2).1 = ((d).2).1) from rfl) (allQ_cons (show ((((d).2).2).1 = (((d).2).2).1) from rfl) (allQ_cons (show (((((d).2).2).2).1 = ((((d).2).2).2).1) from rfl) (allQ_cons (show (((((d).2).2).2).2 = ((((d).2).2).2).2) from rfl) (allQ_nil)))))))⟩

theorem ap_e2 (a : List Int) (sc : List Rec) (d : DkT) (i : Int)
 (h1 : ((decide (i < (((List.length sc) : Nat) : Int))) = Bool.true))
 (h2 : ((decide (i < (60 : Int))) = Bool.false)) :
 ∃ ps, stepPs Try.prog DF gAp 100 (bodyN Try.f6 0) 100 (apSn a sc d i).st [.is true, .is false] (.exit 0) (apEnd a sc d) = some ps ∧ AllQ ps := ⟨_, by kernel_rfl, allQ_cons h1 (allQ_cons h2 (allQ_cons (show (a = a) from rfl) (allQ_cons (show ((d).1 = (d).1) from rfl) (allQ_cons (show (((d).2).1 = ((d).2).1) from rfl) (allQ_cons (show ((((d).2).2).1 = (((d).2).2).1) from rfl) (allQ_cons (show (((((d).2).2).2).1 = ((((d).2).2).2).1) from rfl) (allQ_cons (show (((((d).2).2).2).2 = ((((d).2).2).2).2) from rfl) (allQ_nil))))))))⟩

def axSn (a : List Int) (rs : List Rec) (b : List Int) (e : Int) (k : Int) : Sn DF.τ where
  slots := [(0, .v (.one (.words .u8 a))), (8, .v (.one (.own 1))), (9, .v (.one (.int .i64 false e))), (10, .v (.one (.own 0))), (73, .v (.one (.int .i64 false rs.length))), (74, .v (.one (.int .i64 false k)))]
  boxes := [(0, imB rs), (1, dynB b)]
  nt := 97
def axEnd (a b : List Int) (e : Int) : Sn DF.τ where
  slots := [(0, .v (.one (.words .u8 a))), (8, .v (.one (.own 1))), (9, .v (.one (.int .i64 false e)))]
  boxes := [(1, dynB b)]
  nt := 97
theorem ax_st (a : List Int) (rs : List Rec) (b : List Int) (e k k' : Int)
 (h1 : ((decide (k < (((List.length rs) : Nat) : Int))) = Bool.true))
 (h2 : ((0 : Int) ≤ k))
 (h3 : (k < (((List.length rs) : Nat) : Int)))
 (h4 : ((Int.toNat k) < (List.length rs)))
 (h5 : (((Go.Abs.recI (List.getD rs (Int.toNat k) ([] : List (Abs.Fd))) (((0 : Nat) + (1 : Nat)) + (1 : Nat))) != (((List.length (Go.Abs.recW (List.getD rs (Int.toNat k) ([] : List (Abs.Fd))) ((0 : Nat) + (1 : Nat)))) : Nat) : Int)) = Bool.false))
 (h6 : (Go.Abs.InI64 (k + (1 : Int))))
 (h7 : ((k + (1 : Int)) = k')) :
 ∃ ps, stepPs Try.prog DF gAp 100 (bodyN Try.f6 1) 100 (axSn a rs b e k).st [.is true, .is false] .normal (axSn a rs b e k') = some ps ∧ AllQ ps := ⟨_, by kernel_rfl, allQ_cons h1 (allQ_cons h2 (allQ_cons h3 (allQ_cons h4 (allQ_cons h2 (allQ_cons h3 (allQ_cons h4 (allQ_cons h5 (allQ_cons h6 (allQ_cons (show (a = a) from rfl) (allQ_cons (show (e = e) from rfl) (allQ_cons (show ((((List.length rs) : Nat) : Int) = (((List.length rs) : Nat) : Int)) from rfl) (allQ_cons h7 (allQ_cons (show (rs = rs) from rfl) (allQ_cons (show (b = b) from rfl) (allQ_nil)))))))))))))))⟩

theorem ax_ex (a : List Int) (rs : List Rec) (b : List Int) (e k : Int)
 (h1 : ((decide (k < (((List.length rs) : Nat) : Int))) = Bool.false)) :
 ∃ ps, stepPs Try.prog DF gAp 100 (bodyN Try.f6 1) 100 (axSn a rs b e k).st [.is false] (.exit 2) (axEnd a b e) = some ps ∧ AllQ ps := ⟨_, by kernel_rfl, allQ_cons h1 (allQ_cons (show (a = a) from rfl) (allQ_cons (show (e = e) from rfl) (allQ_cons (show (b = b) from rfl) (allQ_nil))))⟩

theorem ap_big (a : List Int) (sc : List Rec)
 (h1 : ((decide ((((List.length a) : Nat) : Int) > (65536 : Int))) = Bool.true)) :
 ∃ ps, runF Try.prog DF gAp 100 Try.f6 [.one (.words .u8 a), .one (.prs opSh sc)] [.is true, .is true] = some ((Go.Abs.AV.v (Go.Abs.A0.one (Go.Abs.Part.bool Bool.true Bool.true))), ps) ∧ AllQ ps := ⟨_, by kernel_rfl, allQ_cons (show ((4194304 : Int) = (4194304 : Int)) from rfl) (allQ_cons h1 (allQ_cons h1 (allQ_nil)))⟩

theorem ap_run (a : List Int) (sc rs : List Rec) (b : List Int) (e : Int) (d0 d : DkT)
 (h1 : ((decide ((((List.length a) : Nat) : Int) > (65536 : Int))) = Bool.false))
 (h2 : ((List.length a) ≤ (281474976710656 : Nat)))
 (h3 : (Go.Num.DkOK ((Go.Num.clampR (4194304 : Int)), ((0 : Int), ((0 : Int), (Bool.false, ([] : List (Rec × Ob))))))))
 (h4 : ((List.length a) ≤ (4611686018427387904 : Nat)))
 (h5 : ((((Go.Num.appendM ((Go.Num.clampR (4194304 : Int)), ((0 : Int), ((0 : Int), (Bool.false, ([] : List (Rec × Ob)))))) (ByteArray.mk (Array.mk [(111 : UInt8), (119 : UInt8), (110 : UInt8)])) a)).1 != (0 : Int)) = Bool.false))
 (h6 : (Go.Num.DkOK ((Go.Num.appendM ((Go.Num.clampR (4194304 : Int)), ((0 : Int), ((0 : Int), (Bool.false, ([] : List (Rec × Ob)))))) (ByteArray.mk (Array.mk [(111 : UInt8), (119 : UInt8), (110 : UInt8)])) a)).2))
 (h7 : ((((Go.Num.syncM ((Go.Num.appendM ((Go.Num.clampR (4194304 : Int)), ((0 : Int), ((0 : Int), (Bool.false, ([] : List (Rec × Ob)))))) (ByteArray.mk (Array.mk [(111 : UInt8), (119 : UInt8), (110 : UInt8)])) a)).2 (ByteArray.mk (Array.mk [(111 : UInt8), (119 : UInt8), (110 : UInt8)])))).1 != (0 : Int)) = Bool.false))
 (h8 : SumOK Try.prog DF (bodyN Try.f6 0) (loopL DF (apSn a sc d0 (0 : Nat)) (.exit 0) (apEnd a sc d)))
 (h9 : ((((Go.Num.syncM ((Go.Num.appendM ((Go.Num.clampR (4194304 : Int)), ((0 : Int), ((0 : Int), (Bool.false, ([] : List (Rec × Ob)))))) (ByteArray.mk (Array.mk [(111 : UInt8), (119 : UInt8), (110 : UInt8)])) a)).2 (ByteArray.mk (Array.mk [(111 : UInt8), (119 : UInt8), (110 : UInt8)])))).2).1 = (d0).1))
 (h10 : (((((Go.Num.syncM ((Go.Num.appendM ((Go.Num.clampR (4194304 : Int)), ((0 : Int), ((0 : Int), (Bool.false, ([] : List (Rec × Ob)))))) (ByteArray.mk (Array.mk [(111 : UInt8), (119 : UInt8), (110 : UInt8)])) a)).2 (ByteArray.mk (Array.mk [(111 : UInt8), (119 : UInt8), (110 : UInt8)])))).2).2).1 = ((d0).2).1))
 (h11 : ((((((Go.Num.syncM ((Go.Num.appendM ((Go.Num.clampR (4194304 : Int)), ((0 : Int), ((0 : Int), (Bool.false, ([] : List (Rec × Ob)))))) (ByteArray.mk (Array.mk [(111 : UInt8), (119 : UInt8), (110 : UInt8)])) a)).2 (ByteArray.mk (Array.mk [(111 : UInt8), (119 : UInt8), (110 : UInt8)])))).2).2).2).1 = (((d0).2).2).1))
 (h12 : (((((((Go.Num.syncM ((Go.Num.appendM ((Go.Num.clampR (4194304 : Int)), ((0 : Int), ((0 : Int), (Bool.false, ([] : List (Rec × Ob)))))) (ByteArray.mk (Array.mk [(111 : UInt8), (119 : UInt8), (110 : UInt8)])) a)).2 (ByteArray.mk (Array.mk [(111 : UInt8), (119 : UInt8), (110 : UInt8)])))).2).2).2).2).1 = ((((d0).2).2).2).1))
 (h13 : (((((((Go.Num.syncM ((Go.Num.appendM ((Go.Num.clampR (4194304 : Int)), ((0 : Int), ((0 : Int), (Bool.false, ([] : List (Rec × Ob)))))) (ByteArray.mk (Array.mk [(111 : UInt8), (119 : UInt8), (110 : UInt8)])) a)).2 (ByteArray.mk (Array.mk [(111 : UInt8), (119 : UInt8), (110 : UInt8)])))).2).2).2).2).2 = ((((d0).2).2).2).2))
 (h14 : (Go.Num.Okd d))
 (h15 : (Go.Num.Okd (Go.Num.crashM d ([] : List (Int)))))
 (h16 : SumOK Try.prog DF (bodyN Try.f6 1) (loopL DF (axSn a rs b e (0 : Nat)) (.exit 2) (axEnd a b e)))
 (h17 : (((Go.Num.readM (Go.Num.crashM d ([] : List (Int))) (ByteArray.mk (Array.mk [(111 : UInt8), (119 : UInt8), (110 : UInt8)])))).1 = e))
 (h18 : ((((List.length (Go.Num.imageM (((((Go.Num.crashM d ([] : List (Int)))).2).2).2).2)) : Nat) : Int) = (((List.length rs) : Nat) : Int)))
 (h19 : ((Go.Num.imageM (((((Go.Num.crashM d ([] : List (Int)))).2).2).2).2) = rs))
 (h20 : (((Go.Num.readM (Go.Num.crashM d ([] : List (Int))) (ByteArray.mk (Array.mk [(111 : UInt8), (119 : UInt8), (110 : UInt8)])))).2 = b))
 (h21 : ((e == (0 : Int)) = Bool.true))
 (h22 : ((decide (a = b)) = Bool.true))
 (h23 : ((List.length a) ≤ (9223372036854775807 : Nat)))
 (h24 : ((List.length b) ≤ (9223372036854775807 : Nat))) :
 ∃ ps, runF Try.prog DF gAp 100 Try.f6 [.one (.words .u8 a), .one (.prs opSh sc)] [.is false, .is false, .is false, .loop (loopL DF (apSn a sc d0 (0 : Nat)) (.exit 0) (apEnd a sc d)), .loop (loopL DF (axSn a rs b e (0 : Nat)) (.exit 2) (axEnd a b e)), .is true, .is true] = some ((Go.Abs.AV.v (Go.Abs.A0.one (Go.Abs.Part.bool Bool.true Bool.true))), ps) ∧ AllQ ps := ⟨_, by kernel_rfl, allQ_cons (show ((4194304 : Int) = (4194304 : Int)) from rfl) (allQ_cons h1 (allQ_cons h2 (allQ_cons (show ((ByteArray.mk (Array.mk [(111 : UInt8), (119 : UInt8), (110 : UInt8)])) = (ByteArray.mk (Array.mk [(111 : UInt8), (119 : UInt8), (110 : UInt8)]))) from rfl) (allQ_cons (show (a = a) from rfl) (allQ_cons (show ((Go.Num.clampR (4194304 : Int)) = (Go.Num.clampR (4194304 : Int))) from rfl) (allQ_cons (show ((0 : Int) = (0 : Int)) from rfl) (allQ_cons (show ((0 : Int) = (0 : Int)) from rfl) (allQ_cons (show (Bool.false = Bool.false) from rfl) (allQ_cons (show (([] : List (Rec × Ob)) = ([] : List (Rec × Ob))) from rfl) (allQ_cons h3 (allQ_cons (show ((3 : Nat) ≤ (9223372036854775807 : Nat)) from by decide) (allQ_cons h4 (allQ_cons h5 (allQ_cons (show ((ByteArray.mk (Array.mk [(111 : UInt8), (119 : UInt8), (110 : UInt8)])) = (ByteArray.mk (Array.mk [(111 : UInt8), (119 : UInt8), (110 : UInt8)]))) from rfl) (allQ_cons (show ((((Go.Num.appendM ((Go.Num.clampR (4194304 : Int)), ((0 : Int), ((0 : Int), (Bool.false, ([] : List (Rec × Ob)))))) (ByteArray.mk (Array.mk [(111 : UInt8), (119 : UInt8), (110 : UInt8)])) a)).2).1 = (((Go.Num.appendM ((Go.Num.clampR (4194304 : Int)), ((0 : Int), ((0 : Int), (Bool.false, ([] : List (Rec × Ob)))))) (ByteArray.mk (Array.mk [(111 : UInt8), (119 : UInt8), (110 : UInt8)])) a)).2).1) from rfl) (allQ_cons (show (((((Go.Num.appendM ((Go.Num.clampR (4194304 : Int)), ((0 : Int), ((0 : Int), (Bool.false, ([] : List (Rec × Ob)))))) (ByteArray.mk (Array.mk [(111 : UInt8), (119 : UInt8), (110 : UInt8)])) a)).2).2).1 = ((((Go.Num.appendM ((Go.Num.clampR (4194304 : Int)), ((0 : Int), ((0 : Int), (Bool.false, ([] : List (Rec × Ob)))))) (ByteArray.mk (Array.mk [(111 : UInt8), (119 : UInt8), (110 : UInt8)])) a)).2).2).1) from rfl) (allQ_cons (show ((((((Go.Num.appendM ((Go.Num.clampR (4194304 : Int)), ((0 : Int), ((0 : Int), (Bool.false, ([] : List (Rec × Ob)))))) (ByteArray.mk (Array.mk [(111 : UInt8), (119 : UInt8), (110 : UInt8)])) a)).2).2).2).1 = (((((Go.Num.appendM ((Go.Num.clampR (4194304 : Int)), ((0 : Int), ((0 : Int), (Bool.false, ([] : List (Rec × Ob)))))) (ByteArray.mk (Array.mk [(111 : UInt8), (119 : UInt8), (110 : UInt8)])) a)).2).2).2).1) from rfl) (allQ_cons (show (((((((Go.Num.appendM ((Go.Num.clampR (4194304 : Int)), ((0 : Int), ((0 : Int), (Bool.false, ([] : List (Rec × Ob)))))) (ByteArray.mk (Array.mk [(111 : UInt8), (119 : UInt8), (110 : UInt8)])) a)).2).2).2).2).1 = ((((((Go.Num.appendM ((Go.Num.clampR (4194304 : Int)), ((0 : Int), ((0 : Int), (Bool.false, ([] : List (Rec × Ob)))))) (ByteArray.mk (Array.mk [(111 : UInt8), (119 : UInt8), (110 : UInt8)])) a)).2).2).2).2).1) from rfl) (allQ_cons (show (((((((Go.Num.appendM ((Go.Num.clampR (4194304 : Int)), ((0 : Int), ((0 : Int), (Bool.false, ([] : List (Rec × Ob)))))) (ByteArray.mk (Array.mk [(111 : UInt8), (119 : UInt8), (110 : UInt8)])) a)).2).2).2).2).2 = ((((((Go.Num.appendM ((Go.Num.clampR (4194304 : Int)), ((0 : Int), ((0 : Int), (Bool.false, ([] : List (Rec × Ob)))))) (ByteArray.mk (Array.mk [(111 : UInt8), (119 : UInt8), (110 : UInt8)])) a)).2).2).2).2).2) from rfl) (allQ_cons h6 (allQ_cons (show ((3 : Nat) ≤ (9223372036854775807 : Nat)) from by decide) (allQ_cons h7 (allQ_cons h8 (allQ_cons (show (a = a) from rfl) (allQ_cons (show (sc = sc) from rfl) (allQ_cons (show ((0 : Int) = (((0 : Nat) : Nat) : Int)) from by decide) (allQ_cons h9 (allQ_cons h10 (allQ_cons h11 (allQ_cons h12 (allQ_cons h13 (allQ_cons (show (([] : List (Int)) = ([] : List (Int))) from rfl) (allQ_cons (show ((d).1 = (d).1) from rfl) (allQ_cons (show (((d).2).1 = ((d).2).1) from rfl) (allQ_cons (show ((((d).2).2).1 = (((d).2).2).1) from rfl) (allQ_cons (show (((((d).2).2).2).1 = ((((d).2).2).2).1) from rfl) (allQ_cons (show (((((d).2).2).2).2 = ((((d).2).2).2).2) from rfl) (allQ_cons h14 (allQ_cons (show ((ByteArray.mk (Array.mk [(111 : UInt8), (119 : UInt8), (110 : UInt8)])) = (ByteArray.mk (Array.mk [(111 : UInt8), (119 : UInt8), (110 : UInt8)]))) from rfl) (allQ_cons (show (((Go.Num.crashM d ([] : List (Int)))).1 = ((Go.Num.crashM d ([] : List (Int)))).1) from rfl) (allQ_cons (show ((((Go.Num.crashM d ([] : List (Int)))).2).1 = (((Go.Num.crashM d ([] : List (Int)))).2).1) from rfl) (allQ_cons (show (((((Go.Num.crashM d ([] : List (Int)))).2).2).1 = ((((Go.Num.crashM d ([] : List (Int)))).2).2).1) from rfl) (allQ_cons (show ((((((Go.Num.crashM d ([] : List (Int)))).2).2).2).1 = (((((Go.Num.crashM d ([] : List (Int)))).2).2).2).1) from rfl) (allQ_cons (show ((((((Go.Num.crashM d ([] : List (Int)))).2).2).2).2 = (((((Go.Num.crashM d ([] : List (Int)))).2).2).2).2) from rfl) (allQ_cons h15 (allQ_cons (show ((3 : Nat) ≤ (9223372036854775807 : Nat)) from by decide) (allQ_cons (show (((Go.Num.crashM d ([] : List (Int)))).1 = ((Go.Num.crashM d ([] : List (Int)))).1) from rfl) (allQ_cons (show ((((Go.Num.crashM d ([] : List (Int)))).2).1 = (((Go.Num.crashM d ([] : List (Int)))).2).1) from rfl) (allQ_cons (show (((((Go.Num.crashM d ([] : List (Int)))).2).2).1 = ((((Go.Num.crashM d ([] : List (Int)))).2).2).1) from rfl) (allQ_cons (show ((((((Go.Num.crashM d ([] : List (Int)))).2).2).2).1 = (((((Go.Num.crashM d ([] : List (Int)))).2).2).2).1) from rfl) (allQ_cons (show ((((((Go.Num.crashM d ([] : List (Int)))).2).2).2).2 = (((((Go.Num.crashM d ([] : List (Int)))).2).2).2).2) from rfl) (allQ_cons h15 (allQ_cons h16 (allQ_cons (show (a = a) from rfl) (allQ_cons h17 (allQ_cons h18 (allQ_cons (show ((0 : Int) = (((0 : Nat) : Nat) : Int)) from by decide) (allQ_cons h19 (allQ_cons h20 (allQ_cons h21 (allQ_cons h22 (allQ_cons h23 (allQ_cons h24 (allQ_nil))))))))))))))))))))))))))))))))))))))))))))))))))))))))))))))))⟩

/-! What is left behind a loss of power -/

def Settled (o : Ob) : Prop := obS o = ((obD o).length : Int)

theorem cr_settled {ro : Int} {es0 : List (Rec × Ob)} (h : Esd ro es0) (keep : List Int) : ∀ (k : Nat), k ≤ (sortK es0).length → ∀ j, j < k → Settled (obE (crGo keep (sortK es0) k (ro - safeSum none es0, es0)).2 [.s (recS ((sortK es0).getD j []) 0)])
  | 0, _, j, hj => by omega
  | k + 1, hk, j, hj => by
    have hI := crGo_inv h keep k (by omega)
    have ih := cr_settled h keep k (by omega)
    show Settled (obE (crStep keep (sortK es0) k (crGo keep (sortK es0) k (ro - safeSum none es0, es0))).2 _)
    generalize crGo keep (sortK es0) k (ro - safeSum none es0, es0) = x at hI ih ⊢
    unfold crStep
    simp only
    rw [obE_set]
    split
    · have ho := hI.esd.ob [.s (recS ((sortK es0).getD k []) 0)]
      have hf := hI.esd.free
      have hx := hI.free
      obtain ⟨n1, n2, n3⟩ := crN_le (keep := keep) (k := k) (l := obD (obE x.2 [.s (recS ((sortK es0).getD k []) 0)])) (s := obS (obE x.2 [.s (recS ((sortK es0).getD k []) 0)])) (free := x.1) ho.2.1 (by omega)
      generalize crN keep k (obD (obE x.2 [.s (recS ((sortK es0).getD k []) 0)])) (obS (obE x.2 [.s (recS ((sortK es0).getD k []) 0)])) x.1 = n at n1 n2 n3 ⊢
      show obS (obE x.2 [.s (recS ((sortK es0).getD k []) 0)]) + n = ((((obD (obE x.2 [.s (recS ((sortK es0).getD k []) 0)])).take (obS (obE x.2 [.s (recS ((sortK es0).getD k []) 0)]) + n).toNat).length : Nat) : Int)
      rw [List.length_take]
      omega
    · rename_i hne
      have hjk : j ≠ k := fun e => hne (by rw [e])
      exact ih j (by omega)

theorem sortK_keys {es es' : List (Rec × Ob)} (h : es'.map (·.1) = es.map (·.1)) : sortK es' = sortK es := by
  unfold sortK keyL
  have : es'.map (fun e => (recS e.1 0).data.toList) = es.map (fun e => (recS e.1 0).data.toList) := by
    have := congrArg (List.map fun r : Rec => (recS r 0).data.toList) h
    rwa [List.map_map, List.map_map] at this
  rw [this]

theorem crash_settled {d : DkT} (h : Okd d) (keep : List Int) : ∀ r ∈ imageM (crashM d keep).2.2.2.2, recI r 2 = ((recW r 1).length : Int) := by
  intro r hr
  have hI := crGo_inv h.esd keep (sortK d.2.2.2.2).length (Nat.le_refl _)
  have hs : sortK (crashM d keep).2.2.2.2 = sortK d.2.2.2.2 := sortK_keys hI.keys
  unfold imageM at hr
  rw [hs] at hr
  obtain ⟨q, hq, rfl⟩ := List.mem_map.1 hr
  obtain ⟨j, hj, rfl⟩ := List.getElem_of_mem hq
  have := cr_settled h.esd keep (sortK d.2.2.2.2).length (Nat.le_refl _) j hj
  rw [List.getD_eq_getElem?_getD, List.getElem?_eq_getElem hj] at this
  exact this

/-! One file is nobody else's -/

abbrev cO : ByteArray := ⟨#[111, 119, 110]⟩
theorem right_o : rightB cO = true := by kernel_rfl
def Own (a : List Int) (es : List (Rec × Ob)) : Prop := hasE es [Fd.s cO] = true ∧ obE es [Fd.s cO] = fileOb a a.length

theorem own_set {a : List Int} {es : List (Rec × Ob)} (h : Own a es) {s : ByteArray} (hs : s ≠ cO) (o : Ob) : Own a (setE es [Fd.s s] o) := by
  have hne : ([Fd.s cO] : Rec) ≠ [Fd.s s] := fun e => hs (by cases e; rfl)
  exact ⟨by rw [hasE_set, h.1, Bool.or_true], by rw [obE_set, if_neg hne]; exact h.2⟩
theorem own_del {a : List Int} {es : List (Rec × Ob)} (h : Own a es) (hn : (es.map (·.1)).Nodup) {s : ByteArray} (hs : s ≠ cO) : Own a (delE es [Fd.s s]) := by
  have hne : ([Fd.s cO] : Rec) ≠ [Fd.s s] := fun e => hs (by cases e; rfl)
  exact ⟨by rw [hasE_del hn, h.1, decide_eq_false hne]; rfl, by rw [obE_del hne]; exact h.2⟩

theorem own_do {a : List Int} {d : DkT} (hd : Okd d) (h : Own a d.2.2.2.2) {o : OpT} (hs : o.s ≠ cO) (ht : o.t ≠ cO) (hk : o.k ≠ 7) : Own a (doM d o).2.2.2.2.2.2 := by
  unfold doM
  split
  · show Own a (appendM d o.s o.b).2.2.2.2.2
    unfold appendM
    split
    · exact h
    split
    · exact h
    split
    · exact h
    · exact own_set h hs _
  split
  · show Own a (syncM d o.s).2.2.2.2.2
    unfold syncM
    split
    · exact h
    split
    · exact h
    split
    · exact own_set h hs _
    · exact h
  split
  · show Own a (cutM d o.s o.n).2.2.2.2.2
    unfold cutM
    split
    · exact h
    split
    · exact h
    split
    · exact own_set h hs _
    · exact h
  split
  · show Own a (moveM d o.s o.t).2.2.2.2.2
    unfold moveM
    split
    · exact h
    split
    · exact h
    split
    · exact own_set (own_del h hd.nodup hs) ht _
    · exact h
  split
  · show Own a (dropM d o.s).2.2.2.2.2
    unfold dropM
    split
    · exact h
    split
    · exact own_del h hd.nodup hs
    · exact h
  split
  · exact h
  split
  · exact h
  exact h

theorem own_crash {a : List Int} {d : DkT} (h : Own a d.2.2.2.2) : Own a (crashM d []).2.2.2.2 := by
  have : ∀ k, Own a (crGo [] (sortK d.2.2.2.2) k (d.1 - safeSum none d.2.2.2.2, d.2.2.2.2)).2 := by
    intro k
    induction k with
    | zero => exact h
    | succ k ih =>
      show Own a (crStep [] (sortK d.2.2.2.2) k (crGo [] (sortK d.2.2.2.2) k (d.1 - safeSum none d.2.2.2.2, d.2.2.2.2))).2
      generalize crGo [] (sortK d.2.2.2.2) k (d.1 - safeSum none d.2.2.2.2, d.2.2.2.2) = x at ih ⊢
      unfold crStep
      simp only [crN_nil]
      by_cases he : recS ((sortK d.2.2.2.2).getD k []) 0 = cO
      · rw [he]
        refine ⟨by rw [hasE_set, ih.1, Bool.or_true], ?_⟩
        rw [obE_set, if_pos rfl, ih.2]
        show fileOb (a.take ((a.length : Int) + 0).toNat) ((a.length : Int) + 0) = _
        rw [Int.add_zero, Int.toNat_natCast, List.take_length]
      · exact own_set ih he _
  exact this _

/-! The law -/

/-- The script on the way. -/
structure ApI (a : List Int) (d : DkT) (k : Nat) : Prop where
  ok : OkN d (k + 5)
  own : Own a d.2.2.2.2

theorem ap_loop {a : List Int} {sc : List Rec} (hsc : ∀ r ∈ sc, OpOk (opOf r)) (hl : sc.length ≤ 4611686018427387904) {d0 : DkT} (h0 : ApI a d0 0) : ∃ d, Okd d ∧ Own a d.2.2.2.2 ∧
    SumOK Try.prog DF (bodyN Try.f6 0) (loopL DF (apSn a sc d0 (0 : Nat)) (.exit 0) (apEnd a sc d)) := by
  have key : ∀ k, k < sc.length → k < 60 → ∀ d, ApI a d k → ∃ d', ApI a d' (k + 1) ∧ ∃ fuel nid ds ps, stepPs Try.prog DF gAp fuel (bodyN Try.f6 0) nid (apSn a sc d k).st ds .normal (apSn a sc d' ((k + 1 : Nat) : Int)) = some ps ∧ AllQ ps := by
    intro k hk h60 d hI
    have hI' : ApI a d (k + 1) := ⟨⟨hI.ok.1, by have := hI.ok.2; omega⟩, hI.own⟩
    by_cases c1 : recS (sc.getD k []) 1 = cO
    · exact ⟨d, hI', _, _, _, ap_s1 a sc d k _ (decide_eq_true (by omega)) (decide_eq_true (by omega)) (by omega) (by omega) (decide_eq_true (by rw [Int.toNat_natCast]; exact c1)) ⟨by omega, by omega⟩ rfl⟩
    by_cases c2 : recS (sc.getD k []) 2 = cO
    · exact ⟨d, hI', _, _, _, ap_s2 a sc d k _ (decide_eq_true (by omega)) (decide_eq_true (by omega)) (by omega) (by omega) (decide_eq_false (by rw [Int.toNat_natCast]; exact c1)) (decide_eq_true (by rw [Int.toNat_natCast]; exact c2)) ⟨by omega, by omega⟩ rfl⟩
    by_cases c3 : recI (sc.getD k []) 0 = 7
    · exact ⟨d, hI', _, _, _, ap_s3 a sc d k _ (decide_eq_true (by omega)) (decide_eq_true (by omega)) (by omega) (by omega) (decide_eq_false (by rw [Int.toNat_natCast]; exact c1)) (decide_eq_false (by rw [Int.toNat_natCast]; exact c2)) (by rw [Int.toNat_natCast]; exact beq_iff_eq.2 c3) ⟨by omega, by omega⟩ rfl⟩
    have hm : sc.getD k [] ∈ sc := by
      rw [List.getD_eq_getElem?_getD, List.getElem?_eq_getElem hk]
      exact List.getElem_mem hk
    have hop := hsc _ hm
    have hn := do_nxt hI.ok.1 hop
    have hok := hI.ok.nxt hn
    exact ⟨(doM d (opOf (sc.getD k []))).2.2, ⟨⟨hok.1, by have := hok.2; omega⟩, own_do hI.ok.1 hI.own c1 c2 c3⟩, _, _, _, ap_do a sc d _ k _ (decide_eq_true (by omega)) (decide_eq_true (by omega)) (by omega) (by omega) (decide_eq_false (by rw [Int.toNat_natCast]; exact c1)) (decide_eq_false (by rw [Int.toNat_natCast]; exact c2)) (by rw [Int.toNat_natCast]; exact beq_eq_false_iff_ne.2 c3)
      (hI.ok.dk (by omega)) (by rw [Int.toNat_natCast]; exact hop) ⟨by omega, by omega⟩ rfl (by rw [Int.toNat_natCast]; rfl) (by rw [Int.toNat_natCast]; rfl) (by rw [Int.toNat_natCast]; rfl) (by rw [Int.toNat_natCast]; rfl) (by rw [Int.toNat_natCast]; rfl)⟩
  let N := min sc.length 60
  have hex : ∀ k, k ≤ N → ∃ f : Nat → DkT, f 0 = d0 ∧ ∀ j, j ≤ k → ApI a (f j) j ∧ (j < k → ∃ fuel nid ds ps, stepPs Try.prog DF gAp fuel (bodyN Try.f6 0) nid (apSn a sc (f j) j).st ds .normal (apSn a sc (f (j + 1)) ((j + 1 : Nat) : Int)) = some ps ∧ AllQ ps) := by
    intro k
    induction k with
    | zero => exact fun _ => ⟨fun _ => d0, rfl, fun j hj => by
        have : j = 0 := by omega
        subst this
        exact ⟨h0, fun h => by omega⟩⟩
    | succ k ih =>
      intro hk
      obtain ⟨f, f0, hf⟩ := ih (by omega)
      obtain ⟨d', h1, h2⟩ := key k (by omega) (by omega) (f k) (hf k (Nat.le_refl _)).1
      refine ⟨fun j => if j ≤ k then f j else d', by simp [f0], fun j hj => ?_⟩
      by_cases hjk : j ≤ k
      · refine ⟨by simp only [hjk, if_true]; exact (hf j hjk).1, fun hlt => ?_⟩
        by_cases hjk2 : j + 1 ≤ k
        · simp only [hjk, hjk2, if_true]
          exact (hf j hjk).2 (by omega)
        · have : j = k := by omega
          subst this
          simp only [Nat.le_refl, if_true, hjk2, if_false]
          exact h2
      · have : j = k + 1 := by omega
        subst this
        refine ⟨by simp only [hjk, if_false]; exact h1, fun hlt => by omega⟩
  obtain ⟨f, f0, hf⟩ := hex N (Nat.le_refl _)
  refine ⟨f N, (hf N (Nat.le_refl _)).1.ok.1, (hf N (Nat.le_refl _)).1.own, ?_⟩
  have := sum_loop gAp_ok mixed (c := bodyN Try.f6 0) (fun k => apSn a sc (f k) k) N (e := .exit 0) (s := apEnd a sc (f N)) rfl (fun k hk => (hf k (by omega)).2 hk) ?_
  · rw [show apSn a sc d0 ((0 : Nat) : Int) = apSn a sc (f 0) ((0 : Nat) : Int) from by rw [f0]]
    exact this
  · by_cases c : N < sc.length
    · exact ⟨_, _, _, ap_e2 a sc (f N) N (decide_eq_true (by omega)) (decide_eq_false (by omega))⟩
    · exact ⟨_, _, _, ap_e1 a sc (f N) N (decide_eq_false (by omega))⟩

theorem ax_loop {a : List Int} {rs : List Rec} (hl : rs.length ≤ 32) (h : ∀ r ∈ rs, recI r 2 = ((recW r 1).length : Int)) (b : List Int) (e : Int) : SumOK Try.prog DF (bodyN Try.f6 1) (loopL DF (axSn a rs b e (0 : Nat)) (.exit 2) (axEnd a b e)) := by
  refine sum_loop gAp_ok mixed (c := bodyN Try.f6 1) (fun k => axSn a rs b e k) rs.length (e := .exit 2) (s := axEnd a b e) rfl (fun k hk => ?_) ⟨_, _, _, ax_ex a rs b e _ (decide_eq_false (by omega))⟩
  have hm : rs.getD k [] ∈ rs := by
    rw [List.getD_eq_getElem?_getD, List.getElem?_eq_getElem hk]
    exact List.getElem_mem hk
  exact ⟨_, _, _, ax_st a rs b e k _ (decide_eq_true (by omega)) (by omega) (by omega) (by rw [Int.toNat_natCast]; exact hk) (by rw [Int.toNat_natCast]; exact bne_eq_false_iff_eq.2 (h _ hm)) ⟨by omega, by omega⟩ rfl⟩

theorem law_apart {a : List Int} {sc : List Rec} (_ : InB a) (ha : a.length ≤ 140737488351232) (hsc : sc.length ≤ 4611686018427387904 ∧ ∀ r ∈ sc, OpOk (opOf r)) :
    ∃ Γ, GamOK Try.prog DF Γ ∧ ∃ ds ps, runF Try.prog DF Γ 100 Try.f6 [.one (.words .u8 a), .one (.prs opSh sc)] ds = some (.v (.one (.bool true true)), ps) ∧ AllQ ps := by
  by_cases hbig : 65536 < a.length
  · obtain ⟨ps, h1, h2⟩ := ap_big a sc (decide_eq_true (by omega))
    exact ⟨_, gAp_ok, _, ps, h1, h2⟩
  have hcl : clampR 4194304 = 4194304 := by decide
  have o0 : OkN (clampR 4194304, 0, 0, false, []) 0 := ⟨okd_new 4194304, Int.le_refl _⟩
  have o1 := o0.nxt (append_nxt o0.1 cO a)
  have o2 := o1.nxt (sync_nxt o1.1 cO)
  have e1 : appendM (clampR 4194304, 0, 0, false, []) cO a = (0, (4194304, 1, 0, false, one cO a 0)) := by
    rw [hcl, app_nil right_o (by omega)]
    rfl
  have e2 : syncM (4194304, 1, 0, false, one cO a 0) cO = (0, (4194304, 2, 0, false, one cO a a.length)) := by
    rw [sync_one right_o (by omega)]
    rfl
  have o2' : OkN (4194304, 2, 0, false, one cO a a.length) 2 := by simp only [e1, e2] at o2; exact o2
  have hown : Own a (one cO a a.length) := ⟨by simp [one, hasE, getE], ob_one ..⟩
  obtain ⟨d, hd, hdo, hloop⟩ := ap_loop hsc.2 hsc.1 (d0 := (4194304, 2, 0, false, one cO a a.length)) ⟨⟨o2'.1, by have := o2'.2; omega⟩, hown⟩
  have hc := crash_ok0 hd []
  have hco := own_crash hdo
  have hlen : (imageM (crashM d []).2.2.2.2).length ≤ 32 := by
    unfold imageM
    rw [List.length_map, sortK_len]
    exact hc.len
  have hread : readM (crashM d []) cO = (0, a) := by
    have he : DkT.err (crashM d []) cO = 0 := by
      show errF false (crashM d []).2.2.2.2 cO = 0
      unfold errF
      simp only [Bool.false_eq_true, if_false, right_o, if_true, hco.1]
    have hd : fD (crashM d []) cO = a := by
      show obD (obE (crashM d []).2.2.2.2 [Fd.s cO]) = a
      rw [hco.2]
      rfl
    unfold readM
    rw [if_neg (by rw [he]; simp), hd]
  obtain ⟨ps, p1, p2⟩ : ∃ ps, runF Try.prog DF gAp 100 Try.f6 [.one (.words .u8 a), .one (.prs opSh sc)] _ = some (.v (.one (.bool true true)), ps) ∧ AllQ ps := by
    apply ap_run a sc (imageM (crashM d []).2.2.2.2) a 0 (4194304, 2, 0, false, one cO a a.length) d
    all_goals first
      | omega
      | exact o0.dk (by decide)
      | exact o1.dk (by decide)
      | exact hd
      | exact hc
      | exact hloop
      | exact ax_loop hlen (crash_settled hd []) a 0
      | (simp only [e1, e2, hread]; done)
      | (simp only [e1, e2, hread]; rfl)
      | exact decide_eq_false (by omega)
      | exact decide_eq_true rfl
      | rfl
  exact ⟨_, gAp_ok, _, ps, p1, p2⟩

end Go.Num

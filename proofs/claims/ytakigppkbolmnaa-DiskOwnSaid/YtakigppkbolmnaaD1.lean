/- Disk: names. -/
import Derived.Test.YtakigppkbolmnaaDA
namespace Go.Num
open Go.Abs Go.Proofs Go.Shelf

/-! Right -/

def rtSn (s : ByteArray) (k : Int) : Sn DF.τ where
  slots := [(0, .v (.one (.str s))), (14, .v (.one (.int .i64 false s.size))), (15, .v (.one (.int .i64 false k)))]
  boxes := []
  nt := 41
def rtEnd : Sn DF.τ where
  slots := [(2, .v (.one (.bool true false)))]
  boxes := []
  nt := 41
def rrSn (s : ByteArray) (k : Int) : Sn DF.τ where
  slots := [(0, .v (.one (.str s))), (3, .v (.one (.int .i64 false k)))]
  boxes := []
  nt := 42
def rrEnd : Sn DF.τ where
  slots := [(2, .v (.one (.bool true false)))]
  boxes := []
  nt := 42

theorem rt_okA (s : ByteArray) (k k' : Int)
 (h1 : ((decide (k < (((ByteArray.size s) : Nat) : Int))) = Bool.true))
 (h2 : ((0 : Int) ≤ k))
 (h3 : (k < (((ByteArray.size s) : Nat) : Int)))
 (h4 : ((decide ((((UInt8.toNat (List.getD ((s).1).1 (Int.toNat k) (0 : UInt8))) : Nat) : Int) ≥ (97 : Int))) = Bool.true))
 (h5 : ((decide ((((UInt8.toNat (List.getD ((s).1).1 (Int.toNat k) (0 : UInt8))) : Nat) : Int) ≤ (122 : Int))) = Bool.true))
 (h6 : (Go.Abs.InI64 (k + (1 : Int))))
 (h7 : ((k + (1 : Int)) = k')) :
 ∃ ps, stepPs Try.prog DF [] 100 (bodyN Try.f36 0) 100 (rtSn s k).st [.is true, .is true, .is true] .normal (rtSn s k') = some ps ∧ AllQ ps := ⟨_, by kernel_rfl, allQ_cons h1 (allQ_cons h2 (allQ_cons h3 (allQ_cons h4 (allQ_cons h5 (allQ_cons h6 (allQ_cons (show (s = s) from rfl) (allQ_cons (show ((((ByteArray.size s) : Nat) : Int) = (((ByteArray.size s) : Nat) : Int)) from rfl) (allQ_cons h7 (allQ_nil)))))))))⟩

theorem rt_okB (s : ByteArray) (k k' : Int)
 (h1 : ((decide (k < (((ByteArray.size s) : Nat) : Int))) = Bool.true))
 (h2 : ((0 : Int) ≤ k))
 (h3 : (k < (((ByteArray.size s) : Nat) : Int)))
 (h4 : ((decide ((((UInt8.toNat (List.getD ((s).1).1 (Int.toNat k) (0 : UInt8))) : Nat) : Int) ≥ (97 : Int))) = Bool.false))
 (h5 : ((decide ((((UInt8.toNat (List.getD ((s).1).1 (Int.toNat k) (0 : UInt8))) : Nat) : Int) ≥ (48 : Int))) = Bool.true))
 (h6 : ((decide ((((UInt8.toNat (List.getD ((s).1).1 (Int.toNat k) (0 : UInt8))) : Nat) : Int) ≤ (57 : Int))) = Bool.true))
 (h7 : (Go.Abs.InI64 (k + (1 : Int))))
 (h8 : ((k + (1 : Int)) = k')) :
 ∃ ps, stepPs Try.prog DF [] 100 (bodyN Try.f36 0) 100 (rtSn s k).st [.is true, .is false, .is true, .is true] .normal (rtSn s k') = some ps ∧ AllQ ps := ⟨_, by kernel_rfl, allQ_cons h1 (allQ_cons h2 (allQ_cons h3 (allQ_cons h4 (allQ_cons h5 (allQ_cons h6 (allQ_cons h7 (allQ_cons (show (s = s) from rfl) (allQ_cons (show ((((ByteArray.size s) : Nat) : Int) = (((ByteArray.size s) : Nat) : Int)) from rfl) (allQ_cons h8 (allQ_nil))))))))))⟩

theorem rt_okC (s : ByteArray) (k k' : Int)
 (h1 : ((decide (k < (((ByteArray.size s) : Nat) : Int))) = Bool.true))
 (h2 : ((0 : Int) ≤ k))
 (h3 : (k < (((ByteArray.size s) : Nat) : Int)))
 (h4 : ((decide ((((UInt8.toNat (List.getD ((s).1).1 (Int.toNat k) (0 : UInt8))) : Nat) : Int) ≥ (97 : Int))) = Bool.false))
 (h5 : ((decide ((((UInt8.toNat (List.getD ((s).1).1 (Int.toNat k) (0 : UInt8))) : Nat) : Int) ≥ (48 : Int))) = Bool.false))
 (h6 : (((((UInt8.toNat (List.getD ((s).1).1 (Int.toNat k) (0 : UInt8))) : Nat) : Int) == (45 : Int)) = Bool.true))
 (h7 : (Go.Abs.InI64 (k + (1 : Int))))
 (h8 : ((k + (1 : Int)) = k')) :
 ∃ ps, stepPs Try.prog DF [] 100 (bodyN Try.f36 0) 100 (rtSn s k).st [.is true, .is false, .is false, .is true] .normal (rtSn s k') = some ps ∧ AllQ ps := ⟨_, by kernel_rfl, allQ_cons h1 (allQ_cons h2 (allQ_cons h3 (allQ_cons h4 (allQ_cons h5 (allQ_cons h6 (allQ_cons h7 (allQ_cons (show (s = s) from rfl) (allQ_cons (show ((((ByteArray.size s) : Nat) : Int) = (((ByteArray.size s) : Nat) : Int)) from rfl) (allQ_cons h8 (allQ_nil))))))))))⟩

theorem rt_noA (s : ByteArray) (k : Int)
 (h1 : ((decide (k < (((ByteArray.size s) : Nat) : Int))) = Bool.true))
 (h2 : ((0 : Int) ≤ k))
 (h3 : (k < (((ByteArray.size s) : Nat) : Int)))
 (h4 : ((decide ((((UInt8.toNat (List.getD ((s).1).1 (Int.toNat k) (0 : UInt8))) : Nat) : Int) ≥ (97 : Int))) = Bool.true))
 (h5 : ((decide ((((UInt8.toNat (List.getD ((s).1).1 (Int.toNat k) (0 : UInt8))) : Nat) : Int) ≤ (122 : Int))) = Bool.false))
 (h6 : ((decide ((((UInt8.toNat (List.getD ((s).1).1 (Int.toNat k) (0 : UInt8))) : Nat) : Int) ≥ (48 : Int))) = Bool.true))
 (h7 : ((decide ((((UInt8.toNat (List.getD ((s).1).1 (Int.toNat k) (0 : UInt8))) : Nat) : Int) ≤ (57 : Int))) = Bool.false))
 (h8 : (((((UInt8.toNat (List.getD ((s).1).1 (Int.toNat k) (0 : UInt8))) : Nat) : Int) == (45 : Int)) = Bool.false)) :
 ∃ ps, stepPs Try.prog DF [] 100 (bodyN Try.f36 0) 100 (rtSn s k).st [.is true, .is true, .is false, .is true, .is false, .is false] .ret rtEnd = some ps ∧ AllQ ps := ⟨_, by kernel_rfl, allQ_cons h1 (allQ_cons h2 (allQ_cons h3 (allQ_cons h4 (allQ_cons h5 (allQ_cons h6 (allQ_cons h7 (allQ_cons h8 (allQ_nil))))))))⟩

theorem rt_noB (s : ByteArray) (k : Int)
 (h1 : ((decide (k < (((ByteArray.size s) : Nat) : Int))) = Bool.true))
 (h2 : ((0 : Int) ≤ k))
 (h3 : (k < (((ByteArray.size s) : Nat) : Int)))
 (h4 : ((decide ((((UInt8.toNat (List.getD ((s).1).1 (Int.toNat k) (0 : UInt8))) : Nat) : Int) ≥ (97 : Int))) = Bool.false))
 (h5 : ((decide ((((UInt8.toNat (List.getD ((s).1).1 (Int.toNat k) (0 : UInt8))) : Nat) : Int) ≥ (48 : Int))) = Bool.true))
 (h6 : ((decide ((((UInt8.toNat (List.getD ((s).1).1 (Int.toNat k) (0 : UInt8))) : Nat) : Int) ≤ (57 : Int))) = Bool.false))
 (h7 : (((((UInt8.toNat (List.getD ((s).1).1 (Int.toNat k) (0 : UInt8))) : Nat) : Int) == (45 : Int)) = Bool.false)) :
 ∃ ps, stepPs Try.prog DF [] 100 (bodyN Try.f36 0) 100 (rtSn s k).st [.is true, .is false, .is true, .is false, .is false] .ret rtEnd = some ps ∧ AllQ ps := ⟨_, by kernel_rfl, allQ_cons h1 (allQ_cons h2 (allQ_cons h3 (allQ_cons h4 (allQ_cons h5 (allQ_cons h6 (allQ_cons h7 (allQ_nil)))))))⟩

theorem rt_noC (s : ByteArray) (k : Int)
 (h1 : ((decide (k < (((ByteArray.size s) : Nat) : Int))) = Bool.true))
 (h2 : ((0 : Int) ≤ k))
 (h3 : (k < (((ByteArray.size s) : Nat) : Int)))
 (h4 : ((decide ((((UInt8.toNat (List.getD ((s).1).1 (Int.toNat k) (0 : UInt8))) : Nat) : Int) ≥ (97 : Int))) = Bool.false))
 (h5 : ((decide ((((UInt8.toNat (List.getD ((s).1).1 (Int.toNat k) (0 : UInt8))) : Nat) : Int) ≥ (48 : Int))) = Bool.false))
 (h6 : (((((UInt8.toNat (List.getD ((s).1).1 (Int.toNat k) (0 : UInt8))) : Nat) : Int) == (45 : Int)) = Bool.false)) :
 ∃ ps, stepPs Try.prog DF [] 100 (bodyN Try.f36 0) 100 (rtSn s k).st [.is true, .is false, .is false, .is false] .ret rtEnd = some ps ∧ AllQ ps := ⟨_, by kernel_rfl, allQ_cons h1 (allQ_cons h2 (allQ_cons h3 (allQ_cons h4 (allQ_cons h5 (allQ_cons h6 (allQ_nil))))))⟩

theorem rt_exit (s : ByteArray) (k : Int)
 (h1 : ((decide (k < (((ByteArray.size s) : Nat) : Int))) = Bool.false)) :
 ∃ ps, stepPs Try.prog DF [] 100 (bodyN Try.f36 0) 100 (rtSn s k).st [.is false] (.exit 0) ⟨[], [], 41, 0⟩ = some ps ∧ AllQ ps := ⟨_, by kernel_rfl, allQ_cons h1 (allQ_nil)⟩

theorem rr_okC (s : ByteArray) (k k' : Int)
 (h1 : ((decide (k < (((ByteArray.size s) : Nat) : Int))) = Bool.true))
 (h2 : ((0 : Int) ≤ k))
 (h3 : (k < (((ByteArray.size s) : Nat) : Int)))
 (h4 : (((((UInt8.toNat (List.getD ((s).1).1 (Int.toNat k) (0 : UInt8))) : Nat) : Int) != (45 : Int)) = Bool.false))
 (h5 : (Go.Abs.InI64 (k + (1 : Int))))
 (h6 : ((k + (1 : Int)) = k')) :
 ∃ ps, stepPs Try.prog DF [] 100 (bodyN Try.f39 0) 100 (rrSn s k).st [.is true, .is false] .normal (rrSn s k') = some ps ∧ AllQ ps := ⟨_, by kernel_rfl, allQ_cons h1 (allQ_cons h2 (allQ_cons h3 (allQ_cons h4 (allQ_cons h5 (allQ_cons (show (s = s) from rfl) (allQ_cons h6 (allQ_nil)))))))⟩

theorem rr_okA (s : ByteArray) (k k' : Int)
 (h1 : ((decide (k < (((ByteArray.size s) : Nat) : Int))) = Bool.true))
 (h2 : ((0 : Int) ≤ k))
 (h3 : (k < (((ByteArray.size s) : Nat) : Int)))
 (h4 : (((((UInt8.toNat (List.getD ((s).1).1 (Int.toNat k) (0 : UInt8))) : Nat) : Int) != (45 : Int)) = Bool.true))
 (h5 : ((decide ((((UInt8.toNat (List.getD ((s).1).1 (Int.toNat k) (0 : UInt8))) : Nat) : Int) ≥ (97 : Int))) = Bool.true))
 (h6 : ((decide ((((UInt8.toNat (List.getD ((s).1).1 (Int.toNat k) (0 : UInt8))) : Nat) : Int) ≤ (122 : Int))) = Bool.true))
 (h7 : (Go.Abs.InI64 (k + (1 : Int))))
 (h8 : ((k + (1 : Int)) = k')) :
 ∃ ps, stepPs Try.prog DF [] 100 (bodyN Try.f39 0) 100 (rrSn s k).st [.is true, .is true, .is true, .is true] .normal (rrSn s k') = some ps ∧ AllQ ps := ⟨_, by kernel_rfl, allQ_cons h1 (allQ_cons h2 (allQ_cons h3 (allQ_cons h4 (allQ_cons h5 (allQ_cons h6 (allQ_cons h7 (allQ_cons (show (s = s) from rfl) (allQ_cons h8 (allQ_nil)))))))))⟩

theorem rr_okB (s : ByteArray) (k k' : Int)
 (h1 : ((decide (k < (((ByteArray.size s) : Nat) : Int))) = Bool.true))
 (h2 : ((0 : Int) ≤ k))
 (h3 : (k < (((ByteArray.size s) : Nat) : Int)))
 (h4 : (((((UInt8.toNat (List.getD ((s).1).1 (Int.toNat k) (0 : UInt8))) : Nat) : Int) != (45 : Int)) = Bool.true))
 (h5 : ((decide ((((UInt8.toNat (List.getD ((s).1).1 (Int.toNat k) (0 : UInt8))) : Nat) : Int) ≥ (97 : Int))) = Bool.false))
 (h6 : ((decide ((((UInt8.toNat (List.getD ((s).1).1 (Int.toNat k) (0 : UInt8))) : Nat) : Int) ≥ (48 : Int))) = Bool.true))
 (h7 : ((decide ((((UInt8.toNat (List.getD ((s).1).1 (Int.toNat k) (0 : UInt8))) : Nat) : Int) ≤ (57 : Int))) = Bool.true))
 (h8 : (Go.Abs.InI64 (k + (1 : Int))))
 (h9 : ((k + (1 : Int)) = k')) :
 ∃ ps, stepPs Try.prog DF [] 100 (bodyN Try.f39 0) 100 (rrSn s k).st [.is true, .is true, .is false, .is true, .is true] .normal (rrSn s k') = some ps ∧ AllQ ps := ⟨_, by kernel_rfl, allQ_cons h1 (allQ_cons h2 (allQ_cons h3 (allQ_cons h4 (allQ_cons h5 (allQ_cons h6 (allQ_cons h7 (allQ_cons h8 (allQ_cons (show (s = s) from rfl) (allQ_cons h9 (allQ_nil))))))))))⟩

theorem rr_noA (s : ByteArray) (k : Int)
 (h1 : ((decide (k < (((ByteArray.size s) : Nat) : Int))) = Bool.true))
 (h2 : ((0 : Int) ≤ k))
 (h3 : (k < (((ByteArray.size s) : Nat) : Int)))
 (h4 : (((((UInt8.toNat (List.getD ((s).1).1 (Int.toNat k) (0 : UInt8))) : Nat) : Int) != (45 : Int)) = Bool.true))
 (h5 : ((decide ((((UInt8.toNat (List.getD ((s).1).1 (Int.toNat k) (0 : UInt8))) : Nat) : Int) ≥ (97 : Int))) = Bool.true))
 (h6 : ((decide ((((UInt8.toNat (List.getD ((s).1).1 (Int.toNat k) (0 : UInt8))) : Nat) : Int) ≤ (122 : Int))) = Bool.false))
 (h7 : ((decide ((((UInt8.toNat (List.getD ((s).1).1 (Int.toNat k) (0 : UInt8))) : Nat) : Int) ≥ (48 : Int))) = Bool.true))
 (h8 : ((decide ((((UInt8.toNat (List.getD ((s).1).1 (Int.toNat k) (0 : UInt8))) : Nat) : Int) ≤ (57 : Int))) = Bool.false)) :
 ∃ ps, stepPs Try.prog DF [] 100 (bodyN Try.f39 0) 100 (rrSn s k).st [.is true, .is true, .is true, .is false, .is true, .is false] .ret rrEnd = some ps ∧ AllQ ps := ⟨_, by kernel_rfl, allQ_cons h1 (allQ_cons h2 (allQ_cons h3 (allQ_cons h4 (allQ_cons h5 (allQ_cons h6 (allQ_cons h7 (allQ_cons h8 (allQ_nil))))))))⟩

theorem rr_noB (s : ByteArray) (k : Int)
 (h1 : ((decide (k < (((ByteArray.size s) : Nat) : Int))) = Bool.true))
 (h2 : ((0 : Int) ≤ k))
 (h3 : (k < (((ByteArray.size s) : Nat) : Int)))
 (h4 : (((((UInt8.toNat (List.getD ((s).1).1 (Int.toNat k) (0 : UInt8))) : Nat) : Int) != (45 : Int)) = Bool.true))
 (h5 : ((decide ((((UInt8.toNat (List.getD ((s).1).1 (Int.toNat k) (0 : UInt8))) : Nat) : Int) ≥ (97 : Int))) = Bool.false))
 (h6 : ((decide ((((UInt8.toNat (List.getD ((s).1).1 (Int.toNat k) (0 : UInt8))) : Nat) : Int) ≥ (48 : Int))) = Bool.true))
 (h7 : ((decide ((((UInt8.toNat (List.getD ((s).1).1 (Int.toNat k) (0 : UInt8))) : Nat) : Int) ≤ (57 : Int))) = Bool.false)) :
 ∃ ps, stepPs Try.prog DF [] 100 (bodyN Try.f39 0) 100 (rrSn s k).st [.is true, .is true, .is false, .is true, .is false] .ret rrEnd = some ps ∧ AllQ ps := ⟨_, by kernel_rfl, allQ_cons h1 (allQ_cons h2 (allQ_cons h3 (allQ_cons h4 (allQ_cons h5 (allQ_cons h6 (allQ_cons h7 (allQ_nil)))))))⟩

theorem rr_noC (s : ByteArray) (k : Int)
 (h1 : ((decide (k < (((ByteArray.size s) : Nat) : Int))) = Bool.true))
 (h2 : ((0 : Int) ≤ k))
 (h3 : (k < (((ByteArray.size s) : Nat) : Int)))
 (h4 : (((((UInt8.toNat (List.getD ((s).1).1 (Int.toNat k) (0 : UInt8))) : Nat) : Int) != (45 : Int)) = Bool.true))
 (h5 : ((decide ((((UInt8.toNat (List.getD ((s).1).1 (Int.toNat k) (0 : UInt8))) : Nat) : Int) ≥ (97 : Int))) = Bool.false))
 (h6 : ((decide ((((UInt8.toNat (List.getD ((s).1).1 (Int.toNat k) (0 : UInt8))) : Nat) : Int) ≥ (48 : Int))) = Bool.false)) :
 ∃ ps, stepPs Try.prog DF [] 100 (bodyN Try.f39 0) 100 (rrSn s k).st [.is true, .is true, .is false, .is false] .ret rrEnd = some ps ∧ AllQ ps := ⟨_, by kernel_rfl, allQ_cons h1 (allQ_cons h2 (allQ_cons h3 (allQ_cons h4 (allQ_cons h5 (allQ_cons h6 (allQ_nil))))))⟩

theorem rr_exit (s : ByteArray) (k : Int)
 (h1 : ((decide (k < (((ByteArray.size s) : Nat) : Int))) = Bool.false)) :
 ∃ ps, stepPs Try.prog DF [] 100 (bodyN Try.f39 0) 100 (rrSn s k).st [.is false] (.exit 0) ⟨[(0, .v (.one (.str s)))], [], 42, 0⟩ = some ps ∧ AllQ ps := ⟨_, by kernel_rfl, allQ_cons h1 (allQ_cons (show (s = s) from rfl) (allQ_nil))⟩

theorem rt_short (s : ByteArray)
 (h1 : ((decide ((((ByteArray.size s) : Nat) : Int) < (1 : Int))) = Bool.true)) :
 ∃ ps, runF Try.prog DF [] 100 Try.f36 [.one (.str s)] [.is true] = some ((Go.Abs.AV.v (Go.Abs.A0.one (Go.Abs.Part.bool Bool.true Bool.false))), ps) ∧ AllQ ps := ⟨_, by kernel_rfl, allQ_cons h1 (allQ_nil)⟩

theorem rt_long (s : ByteArray)
 (h1 : ((decide ((((ByteArray.size s) : Nat) : Int) < (1 : Int))) = Bool.false))
 (h2 : ((decide ((((ByteArray.size s) : Nat) : Int) > (24 : Int))) = Bool.true)) :
 ∃ ps, runF Try.prog DF [] 100 Try.f36 [.one (.str s)] [.is false, .is true] = some ((Go.Abs.AV.v (Go.Abs.A0.one (Go.Abs.Part.bool Bool.true Bool.false))), ps) ∧ AllQ ps := ⟨_, by kernel_rfl, allQ_cons h1 (allQ_cons h2 (allQ_nil))⟩

theorem rt_yes (s : ByteArray)
 (h1 : ((decide ((((ByteArray.size s) : Nat) : Int) < (1 : Int))) = Bool.false))
 (h2 : ((decide ((((ByteArray.size s) : Nat) : Int) > (24 : Int))) = Bool.false))
 (h3 : SumOK Try.prog DF (bodyN Try.f36 0) (loopL DF (rtSn s (0 : Nat)) (.exit 0) ⟨[], [], 41, 0⟩)) :
 ∃ ps, runF Try.prog DF [] 100 Try.f36 [.one (.str s)] [.is false, .is false, .loop (loopL DF (rtSn s (0 : Nat)) (.exit 0) ⟨[], [], 41, 0⟩)] = some ((Go.Abs.AV.v (Go.Abs.A0.one (Go.Abs.Part.bool Bool.true Bool.true))), ps) ∧ AllQ ps := ⟨_, by kernel_rfl, allQ_cons h1 (allQ_cons h2 (allQ_cons h3 (allQ_cons (show (s = s) from rfl) (allQ_cons (show ((((ByteArray.size s) : Nat) : Int) = (((ByteArray.size s) : Nat) : Int)) from rfl) (allQ_cons (show ((0 : Int) = (((0 : Nat) : Nat) : Int)) from by decide) (allQ_nil))))))⟩

theorem rt_no (s : ByteArray)
 (h1 : ((decide ((((ByteArray.size s) : Nat) : Int) < (1 : Int))) = Bool.false))
 (h2 : ((decide ((((ByteArray.size s) : Nat) : Int) > (24 : Int))) = Bool.false))
 (h3 : SumOK Try.prog DF (bodyN Try.f36 0) (loopL DF (rtSn s (0 : Nat)) .ret rtEnd)) :
 ∃ ps, runF Try.prog DF [] 100 Try.f36 [.one (.str s)] [.is false, .is false, .loop (loopL DF (rtSn s (0 : Nat)) .ret rtEnd)] = some ((Go.Abs.AV.v (Go.Abs.A0.one (Go.Abs.Part.bool Bool.true Bool.false))), ps) ∧ AllQ ps := ⟨_, by kernel_rfl, allQ_cons h1 (allQ_cons h2 (allQ_cons h3 (allQ_cons (show (s = s) from rfl) (allQ_cons (show ((((ByteArray.size s) : Nat) : Int) = (((ByteArray.size s) : Nat) : Int)) from rfl) (allQ_cons (show ((0 : Int) = (((0 : Nat) : Nat) : Int)) from by decide) (allQ_nil))))))⟩

theorem rr_yes (s : ByteArray)
 (h1 : SumOK Try.prog DF (bodyN Try.f39 0) (loopL DF (rrSn s (0 : Nat)) (.exit 0) ⟨[(0, .v (.one (.str s)))], [], 42, 0⟩))
 (h2 : ((decide ((((ByteArray.size s) : Nat) : Int) > (0 : Int))) = Bool.true))
 (h3 : ((decide ((((ByteArray.size s) : Nat) : Int) < (25 : Int))) = Bool.true)) :
 ∃ ps, runF Try.prog DF [] 100 Try.f39 [.one (.str s)] [.loop (loopL DF (rrSn s (0 : Nat)) (.exit 0) ⟨[(0, .v (.one (.str s)))], [], 42, 0⟩), .is true, .is true] = some ((Go.Abs.AV.v (Go.Abs.A0.one (Go.Abs.Part.bool Bool.true Bool.true))), ps) ∧ AllQ ps := ⟨_, by kernel_rfl, allQ_cons h1 (allQ_cons (show (s = s) from rfl) (allQ_cons (show ((0 : Int) = (((0 : Nat) : Nat) : Int)) from by decide) (allQ_cons h2 (allQ_cons h3 (allQ_nil)))))⟩

theorem rr_short (s : ByteArray)
 (h1 : SumOK Try.prog DF (bodyN Try.f39 0) (loopL DF (rrSn s (0 : Nat)) (.exit 0) ⟨[(0, .v (.one (.str s)))], [], 42, 0⟩))
 (h2 : ((decide ((((ByteArray.size s) : Nat) : Int) > (0 : Int))) = Bool.false)) :
 ∃ ps, runF Try.prog DF [] 100 Try.f39 [.one (.str s)] [.loop (loopL DF (rrSn s (0 : Nat)) (.exit 0) ⟨[(0, .v (.one (.str s)))], [], 42, 0⟩), .is false] = some ((Go.Abs.AV.v (Go.Abs.A0.one (Go.Abs.Part.bool Bool.true Bool.false))), ps) ∧ AllQ ps := ⟨_, by kernel_rfl, allQ_cons h1 (allQ_cons (show (s = s) from rfl) (allQ_cons (show ((0 : Int) = (((0 : Nat) : Nat) : Int)) from by decide) (allQ_cons h2 (allQ_nil))))⟩

theorem rr_long (s : ByteArray)
 (h1 : SumOK Try.prog DF (bodyN Try.f39 0) (loopL DF (rrSn s (0 : Nat)) (.exit 0) ⟨[(0, .v (.one (.str s)))], [], 42, 0⟩))
 (h2 : ((decide ((((ByteArray.size s) : Nat) : Int) > (0 : Int))) = Bool.true))
 (h3 : ((decide ((((ByteArray.size s) : Nat) : Int) < (25 : Int))) = Bool.false)) :
 ∃ ps, runF Try.prog DF [] 100 Try.f39 [.one (.str s)] [.loop (loopL DF (rrSn s (0 : Nat)) (.exit 0) ⟨[(0, .v (.one (.str s)))], [], 42, 0⟩), .is true, .is false] = some ((Go.Abs.AV.v (Go.Abs.A0.one (Go.Abs.Part.bool Bool.true Bool.false))), ps) ∧ AllQ ps := ⟨_, by kernel_rfl, allQ_cons h1 (allQ_cons (show (s = s) from rfl) (allQ_cons (show ((0 : Int) = (((0 : Nat) : Nat) : Int)) from by decide) (allQ_cons h2 (allQ_cons h3 (allQ_nil)))))⟩

theorem rr_no (s : ByteArray)
 (h1 : SumOK Try.prog DF (bodyN Try.f39 0) (loopL DF (rrSn s (0 : Nat)) .ret rrEnd)) :
 ∃ ps, runF Try.prog DF [] 100 Try.f39 [.one (.str s)] [.loop (loopL DF (rrSn s (0 : Nat)) .ret rrEnd)] = some ((Go.Abs.AV.v (Go.Abs.A0.one (Go.Abs.Part.bool Bool.true Bool.false))), ps) ∧ AllQ ps := ⟨_, by kernel_rfl, allQ_cons h1 (allQ_cons (show (s = s) from rfl) (allQ_cons (show ((0 : Int) = (((0 : Nat) : Nat) : Int)) from by decide) (allQ_nil)))⟩

/-! What they say -/

def okc (c : UInt8) : Bool := decide (97 ≤ c.toNat ∧ c.toNat ≤ 122) || (decide (48 ≤ c.toNat ∧ c.toNat ≤ 57) || decide (c.toNat = 45))
def rightB (s : ByteArray) : Bool := decide (1 ≤ s.size ∧ s.size ≤ 24) && s.data.toList.all okc

theorem ba_len (s : ByteArray) : s.data.toList.length = s.size := by
  show s.data.toList.length = s.data.size
  exact Array.length_toList

theorem all_or (l : List UInt8) : l.all okc = true ∨ ∃ k, k < l.length ∧ okc (l.getD k 0) = false ∧ ∀ j, j < k → okc (l.getD j 0) = true := by
  induction l with
  | nil => exact Or.inl rfl
  | cons a l ih =>
    cases ha : okc a
    · exact Or.inr ⟨0, by simp, ha, fun j hj => by omega⟩
    · rcases ih with h | ⟨k, h1, h2, h3⟩
      · left
        simp [ha, h]
      · right
        refine ⟨k + 1, by simp; omega, by simpa using h2, fun j hj => ?_⟩
        cases j with
        | zero => exact ha
        | succ j => simpa using h3 j (by omega)

theorem all_at {l : List UInt8} (h : l.all okc = true) {k : Nat} (hk : k < l.length) : okc (l.getD k 0) = true := by
  rw [List.getD_eq_getElem?_getD, List.getElem?_eq_getElem hk]
  exact List.all_eq_true.1 h _ (List.getElem_mem hk)

theorem rt_step (s : ByteArray) (hs : s.size ≤ 1000000000) {k : Nat} (hk : k < s.size) (h : okc (s.data.toList.getD k 0) = true) : ∃ fuel nid ds ps, stepPs Try.prog DF [] fuel (bodyN Try.f36 0) nid (rtSn s k).st ds .normal (rtSn s ((k + 1 : Nat) : Int)) = some ps ∧ AllQ ps := by
  have d1 : decide ((k : Int) < (s.size : Int)) = true := decide_eq_true (by omega)
  have i1 : InI64 ((k : Int) + 1) := ⟨by omega, by omega⟩
  unfold okc at h
  simp only [Bool.or_eq_true, decide_eq_true_eq] at h
  by_cases c1 : 97 ≤ (s.data.toList.getD k 0).toNat
  · exact ⟨_, _, _, rt_okA s k _ d1 (by omega) (by omega) (decide_eq_true (by rw [Int.toNat_natCast]; omega)) (decide_eq_true (by rw [Int.toNat_natCast]; omega)) i1 rfl⟩
  · by_cases c2 : 48 ≤ (s.data.toList.getD k 0).toNat
    · exact ⟨_, _, _, rt_okB s k _ d1 (by omega) (by omega) (decide_eq_false (by rw [Int.toNat_natCast]; omega)) (decide_eq_true (by rw [Int.toNat_natCast]; omega)) (decide_eq_true (by rw [Int.toNat_natCast]; omega)) i1 rfl⟩
    · exact ⟨_, _, _, rt_okC s k _ d1 (by omega) (by omega) (decide_eq_false (by rw [Int.toNat_natCast]; omega)) (decide_eq_false (by rw [Int.toNat_natCast]; omega)) (beq_iff_eq.2 (by rw [Int.toNat_natCast]; omega)) i1 rfl⟩

theorem rt_bad (s : ByteArray) {k : Nat} (hk : k < s.size) (h : okc (s.data.toList.getD k 0) = false) : ∃ fuel nid ds ps, stepPs Try.prog DF [] fuel (bodyN Try.f36 0) nid (rtSn s k).st ds .ret rtEnd = some ps ∧ AllQ ps := by
  have d1 : decide ((k : Int) < (s.size : Int)) = true := decide_eq_true (by omega)
  unfold okc at h
  simp only [Bool.or_eq_false_iff, decide_eq_false_iff_not] at h
  by_cases c1 : 97 ≤ (s.data.toList.getD k 0).toNat
  · exact ⟨_, _, _, rt_noA s k d1 (by omega) (by omega) (decide_eq_true (by rw [Int.toNat_natCast]; omega)) (decide_eq_false (by rw [Int.toNat_natCast]; omega)) (decide_eq_true (by rw [Int.toNat_natCast]; omega)) (decide_eq_false (by rw [Int.toNat_natCast]; omega)) (beq_eq_false_iff_ne.2 (by rw [Int.toNat_natCast]; omega))⟩
  · by_cases c2 : 48 ≤ (s.data.toList.getD k 0).toNat
    · exact ⟨_, _, _, rt_noB s k d1 (by omega) (by omega) (decide_eq_false (by rw [Int.toNat_natCast]; omega)) (decide_eq_true (by rw [Int.toNat_natCast]; omega)) (decide_eq_false (by rw [Int.toNat_natCast]; omega)) (beq_eq_false_iff_ne.2 (by rw [Int.toNat_natCast]; omega))⟩
    · exact ⟨_, _, _, rt_noC s k d1 (by omega) (by omega) (decide_eq_false (by rw [Int.toNat_natCast]; omega)) (decide_eq_false (by rw [Int.toNat_natCast]; omega)) (beq_eq_false_iff_ne.2 (by rw [Int.toNat_natCast]; omega))⟩

theorem rr_step (s : ByteArray) (hs : s.size ≤ 9223372036854775807) {k : Nat} (hk : k < s.size) (h : okc (s.data.toList.getD k 0) = true) : ∃ fuel nid ds ps, stepPs Try.prog DF [] fuel (bodyN Try.f39 0) nid (rrSn s k).st ds .normal (rrSn s ((k + 1 : Nat) : Int)) = some ps ∧ AllQ ps := by
  have d1 : decide ((k : Int) < (s.size : Int)) = true := decide_eq_true (by omega)
  have i1 : InI64 ((k : Int) + 1) := ⟨by omega, by omega⟩
  unfold okc at h
  simp only [Bool.or_eq_true, decide_eq_true_eq] at h
  by_cases c0 : (s.data.toList.getD k 0).toNat = 45
  · exact ⟨_, _, _, rr_okC s k _ d1 (by omega) (by omega) (by rw [Int.toNat_natCast, c0]; rfl) i1 rfl⟩
  have d0 : ((((s.data.toList.getD (Int.toNat (k : Int)) 0).toNat : Nat) : Int) != 45) = true := bne_iff_ne.2 (by rw [Int.toNat_natCast]; omega)
  by_cases c1 : 97 ≤ (s.data.toList.getD k 0).toNat
  · exact ⟨_, _, _, rr_okA s k _ d1 (by omega) (by omega) d0 (decide_eq_true (by rw [Int.toNat_natCast]; omega)) (decide_eq_true (by rw [Int.toNat_natCast]; omega)) i1 rfl⟩
  · exact ⟨_, _, _, rr_okB s k _ d1 (by omega) (by omega) d0 (decide_eq_false (by rw [Int.toNat_natCast]; omega)) (decide_eq_true (by rw [Int.toNat_natCast]; omega)) (decide_eq_true (by rw [Int.toNat_natCast]; omega)) i1 rfl⟩

theorem rr_bad (s : ByteArray) {k : Nat} (hk : k < s.size) (h : okc (s.data.toList.getD k 0) = false) : ∃ fuel nid ds ps, stepPs Try.prog DF [] fuel (bodyN Try.f39 0) nid (rrSn s k).st ds .ret rrEnd = some ps ∧ AllQ ps := by
  have d1 : decide ((k : Int) < (s.size : Int)) = true := decide_eq_true (by omega)
  unfold okc at h
  simp only [Bool.or_eq_false_iff, decide_eq_false_iff_not] at h
  have d0 : ((((s.data.toList.getD (Int.toNat (k : Int)) 0).toNat : Nat) : Int) != 45) = true := bne_iff_ne.2 (by rw [Int.toNat_natCast]; omega)
  by_cases c1 : 97 ≤ (s.data.toList.getD k 0).toNat
  · exact ⟨_, _, _, rr_noA s k d1 (by omega) (by omega) d0 (decide_eq_true (by rw [Int.toNat_natCast]; omega)) (decide_eq_false (by rw [Int.toNat_natCast]; omega)) (decide_eq_true (by rw [Int.toNat_natCast]; omega)) (decide_eq_false (by rw [Int.toNat_natCast]; omega))⟩
  · by_cases c2 : 48 ≤ (s.data.toList.getD k 0).toNat
    · exact ⟨_, _, _, rr_noB s k d1 (by omega) (by omega) d0 (decide_eq_false (by rw [Int.toNat_natCast]; omega)) (decide_eq_true (by rw [Int.toNat_natCast]; omega)) (decide_eq_false (by rw [Int.toNat_natCast]; omega))⟩
    · exact ⟨_, _, _, rr_noC s k d1 (by omega) (by omega) d0 (decide_eq_false (by rw [Int.toNat_natCast]; omega)) (decide_eq_false (by rw [Int.toNat_natCast]; omega))⟩

def rightF : FnD DF
  | [.one (.str s)] => some (.v (.one (.bool false (rightB s))), [s.size ≤ 9223372036854775807])
  | _ => none

theorem right_ok : FnOK Try.prog DF 36 rightF := by
  refine fnOK_of gam_nil mixed Try.func36 (enters_of Try.func36 (by kernel_rfl) rfl) ?_
  intro xs r ps h hps
  unfold rightF at h
  split at h
  · rename_i s
    simp only [Option.some.injEq, Prod.mk.injEq] at h
    obtain ⟨rfl, rfl⟩ := h
    by_cases h1 : s.size < 1
    · obtain ⟨ps, e1, e2⟩ := rt_short s (decide_eq_true (by omega))
      exact ⟨_, 100, _, _, _, fun w vs h => h, e1, e2, fun E v hv => one_bool (by unfold rightB; rw [decide_eq_false (by omega)]; rfl) hv⟩
    by_cases h2 : 24 < s.size
    · obtain ⟨ps, e1, e2⟩ := rt_long s (decide_eq_false (by omega)) (decide_eq_true (by omega))
      exact ⟨_, 100, _, _, _, fun w vs h => h, e1, e2, fun E v hv => one_bool (by unfold rightB; rw [decide_eq_false (by omega)]; rfl) hv⟩
    have hl := ba_len s
    rcases all_or s.data.toList with ha | ⟨k, k1, k2, k3⟩
    · have hs := sum_loop gam_nil mixed (c := bodyN Try.f36 0) (fun k => rtSn s k) s.size (e := .exit 0) (s := ⟨[], [], 41, 0⟩) rfl (fun k hk => rt_step s (by omega) hk (all_at ha (by omega))) ⟨_, _, _, rt_exit s s.size (decide_eq_false (by omega))⟩
      obtain ⟨ps, e1, e2⟩ := rt_yes s (decide_eq_false (by omega)) (decide_eq_false (by omega)) hs
      exact ⟨_, 100, _, _, _, fun w vs h => h, e1, e2, fun E v hv => one_bool (by unfold rightB; rw [decide_eq_true (by omega), ha]; rfl) hv⟩
    · have hs := sum_loop gam_nil mixed (c := bodyN Try.f36 0) (fun k => rtSn s k) k (e := .ret) (s := rtEnd) rfl (fun j hj => rt_step s (by omega) (by omega) (k3 j hj)) (rt_bad s (by omega) k2)
      obtain ⟨ps, e1, e2⟩ := rt_no s (decide_eq_false (by omega)) (decide_eq_false (by omega)) hs
      have hf : s.data.toList.all okc = false := by
        cases hq : s.data.toList.all okc
        · rfl
        · rw [all_at hq k1] at k2
          cases k2
      exact ⟨_, 100, _, _, _, fun w vs h => h, e1, e2, fun E v hv => one_bool (by unfold rightB; rw [hf, Bool.and_false]) hv⟩
  · cases h

theorem rright_ok : FnOK Try.prog DF 39 rightF := by
  refine fnOK_of gam_nil mixed Try.func39 (enters_of Try.func39 (by kernel_rfl) rfl) ?_
  intro xs r ps h hps
  unfold rightF at h
  split at h
  · rename_i s
    simp only [Option.some.injEq, Prod.mk.injEq] at h
    obtain ⟨rfl, rfl⟩ := h
    have hz : s.size ≤ 9223372036854775807 := hps (s.size ≤ 9223372036854775807) (by simp)
    have hl := ba_len s
    rcases all_or s.data.toList with ha | ⟨k, k1, k2, k3⟩
    · have hs := sum_loop gam_nil mixed (c := bodyN Try.f39 0) (fun k => rrSn s k) s.size (e := .exit 0) (s := ⟨[(0, .v (.one (.str s)))], [], 42, 0⟩) rfl (fun k hk => rr_step s hz hk (all_at ha (by omega))) ⟨_, _, _, rr_exit s s.size (decide_eq_false (by omega))⟩
      by_cases h1 : s.size < 1
      · obtain ⟨ps, e1, e2⟩ := rr_short s hs (decide_eq_false (by omega))
        exact ⟨_, 100, _, _, _, fun w vs h => h, e1, e2, fun E v hv => one_bool (by unfold rightB; rw [decide_eq_false (by omega)]; rfl) hv⟩
      by_cases h2 : 24 < s.size
      · obtain ⟨ps, e1, e2⟩ := rr_long s hs (decide_eq_true (by omega)) (decide_eq_false (by omega))
        exact ⟨_, 100, _, _, _, fun w vs h => h, e1, e2, fun E v hv => one_bool (by unfold rightB; rw [decide_eq_false (by omega)]; rfl) hv⟩
      obtain ⟨ps, e1, e2⟩ := rr_yes s hs (decide_eq_true (by omega)) (decide_eq_true (by omega))
      exact ⟨_, 100, _, _, _, fun w vs h => h, e1, e2, fun E v hv => one_bool (by unfold rightB; rw [decide_eq_true (by omega), ha]; rfl) hv⟩
    · have hs := sum_loop gam_nil mixed (c := bodyN Try.f39 0) (fun k => rrSn s k) k (e := .ret) (s := rrEnd) rfl (fun j hj => rr_step s hz (by omega) (k3 j hj)) (rr_bad s (by omega) k2)
      obtain ⟨ps, e1, e2⟩ := rr_no s hs
      have hf : s.data.toList.all okc = false := by
        cases hq : s.data.toList.all okc
        · rfl
        · rw [all_at hq k1] at k2
          cases k2
      exact ⟨_, 100, _, _, _, fun w vs h => h, e1, e2, fun E v hv => one_bool (by unfold rightB; rw [hf, Bool.and_false]) hv⟩
  · cases h

end Go.Num

/- Several texts put together: S5 S6 S7 S8. -/
import Derived.Test.YtpjphlncockggaaDoorMrg9
namespace Go.Num
open Go.Abs Go.Proofs Go.Shelf
noncomputable def gamO : Gam DS := [(42, .op [true, false] wrD), (43, .op [true] smD)]
theorem gamO_ok : GamOK Tryd.prog DS gamO := gam_op write_ok (gam_op sum_ok gam_nil)
def ofSn (s r : List Int) (ll : List (List Int)) (n : Int) (sl : List (Nat × AV DS.τ)) : Sn DS.τ where
  slots := [(2, .v (.one (.ref 0 0))), (3, .v (.one (.ref 1 0))), (6, .v (.one (.wordss .u8 ll))), (7, .v (.one (.int .i64 false ll.length)))] ++ sl
  boxes := [(0, .fixed 56 [.arr .u8 32 (List.replicate 32 0)]), (1, .fixed 80 (hashP s r n))]
  nt := 16
theorem of_round (s r s' r' : List Int) (ll : List (List Int)) (n n' : Int) (i : Nat)
 (h1 : ((decide (((i : Nat) : Int) < (((List.length ll) : Nat) : Int))) = true))
 (h2 : ((0 : Int) ≤ ((i : Nat) : Int)))
 (h3 : (((i : Nat) : Int) < (((List.length ll) : Nat) : Int)))
 (h4 : ((0 : Int) ≤ n))
 (h5 : ((n + (((List.length (List.getD ll (Int.toNat ((i : Nat) : Int)) ([] : List (Int)))) : Nat) : Int)) ≤ (9223372036854775807 : Int)))
 (h6 : (InI64 (((i : Nat) : Int) + (1 : Int))))
 (h7 : ((writeS s r (Int.toNat n) (List.getD ll (Int.toNat ((i : Nat) : Int)) ([] : List (Int)))) = s'))
 (h8 : ((writeR s r (Int.toNat n) (List.getD ll (Int.toNat ((i : Nat) : Int)) ([] : List (Int)))) = r'))
 (h9 : ((n + (((List.length (List.getD ll (Int.toNat ((i : Nat) : Int)) ([] : List (Int)))) : Nat) : Int)) = n')) :
 ∃ ps, stepPs Tryd.prog DS gamO 100 (bodyN Tryd.f26 0) 100 (ofSn s r ll n [slI 8 i]).st [.is true] .normal (ofSn s' r' ll n' [slI 8 ((i : Int) + 1)]) = some ps ∧ AllQ ps := ⟨_, by kernel_rfl, qc h1 (qc h2 (qc h3 (qc (Eq.refl ((List.getD ll (Int.toNat ((i : Nat) : Int)) ([] : List (Int))))) (qc (Eq.refl s) (qc (Eq.refl r) (qc (Eq.refl n) (qc h4 (qc h5 (qc h6 (qc (Eq.refl ll) (qc (Eq.refl ((((List.length ll) : Nat) : Int))) (qc (Eq.refl ((((i : Nat) : Int) + (1 : Int)))) (qc (Eq.refl ((List.replicate (32 : Nat) (0 : Int)))) (qc h7 (qc h8 (qc h9 (qn)))))))))))))))))⟩
theorem of_exit (s r : List Int) (ll : List (List Int)) (n : Int) (i : Nat)
 (h1 : ((decide (((i : Nat) : Int) < (((List.length ll) : Nat) : Int))) = false)) :
 ∃ ps, stepPs Tryd.prog DS gamO 100 (bodyN Tryd.f26 0) 100 (ofSn s r ll n [slI 8 i]).st [.is false] (.exit 0) (ofSn s r ll n []) = some ps ∧ AllQ ps := ⟨_, by kernel_rfl, qc h1 (qc (Eq.refl ll) (qc (Eq.refl ((((List.length ll) : Nat) : Int))) (qc (Eq.refl ((List.replicate (32 : Nat) (0 : Int)))) (qc (Eq.refl s) (qc (Eq.refl r) (qc (Eq.refl n) (qn)))))))⟩
theorem of_run (s r z8 z64 : List Int) (ll : List (List Int)) (n : Int)
 (h1 : SumOK Tryd.prog DS (bodyN Tryd.f26 0) (loopL DS (ofSn z8 z64 ll 0 [slI 8 (0 : Nat)]) (.exit 0) (ofSn s r ll n [])))
 (h2 : (([(0 : Int), (0 : Int), (0 : Int), (0 : Int), (0 : Int), (0 : Int), (0 : Int), (0 : Int)] : List Int) = z8))
 (h3 : (([(0 : Int), (0 : Int), (0 : Int), (0 : Int), (0 : Int), (0 : Int), (0 : Int), (0 : Int), (0 : Int), (0 : Int), (0 : Int), (0 : Int), (0 : Int), (0 : Int), (0 : Int), (0 : Int), (0 : Int), (0 : Int), (0 : Int), (0 : Int), (0 : Int), (0 : Int), (0 : Int), (0 : Int), (0 : Int), (0 : Int), (0 : Int), (0 : Int), (0 : Int), (0 : Int), (0 : Int), (0 : Int), (0 : Int), (0 : Int), (0 : Int), (0 : Int), (0 : Int), (0 : Int), (0 : Int), (0 : Int), (0 : Int), (0 : Int), (0 : Int), (0 : Int), (0 : Int), (0 : Int), (0 : Int), (0 : Int), (0 : Int), (0 : Int), (0 : Int), (0 : Int), (0 : Int), (0 : Int), (0 : Int), (0 : Int), (0 : Int), (0 : Int), (0 : Int), (0 : Int), (0 : Int), (0 : Int), (0 : Int), (0 : Int)] : List Int) = z64))
 (h4 : ((0 : Int) ≤ n))
 (h5 : (n ≤ (4611686018427387904 : Int))) :
 ∃ ps, runF Tryd.prog DS gamO 100 Tryd.f26 [.one (.wordss .u8 ll)] [.loop (loopL DS (ofSn z8 z64 ll 0 [slI 8 (0 : Nat)]) (.exit 0) (ofSn s r ll n []))] = some ((AV.v (A0.agg [(Part.arr Go.IntKind.u8 (32 : Nat) (sumF s r (Int.toNat n)))])), ps) ∧ AllQ ps := ⟨_, by kernel_rfl, qc h1 (qc (Eq.refl ll) (qc (Eq.refl ((((List.length ll) : Nat) : Int))) (qc (show ((0 : Int) = (((0 : Nat) : Nat) : Int)) from by decide) (qc (show (([(0 : Int), (0 : Int), (0 : Int), (0 : Int), (0 : Int), (0 : Int), (0 : Int), (0 : Int), (0 : Int), (0 : Int), (0 : Int), (0 : Int), (0 : Int), (0 : Int), (0 : Int), (0 : Int), (0 : Int), (0 : Int), (0 : Int), (0 : Int), (0 : Int), (0 : Int), (0 : Int), (0 : Int), (0 : Int), (0 : Int), (0 : Int), (0 : Int), (0 : Int), (0 : Int), (0 : Int), (0 : Int)] : List Int) = (List.replicate (32 : Nat) (0 : Int))) from by decide) (qc h2 (qc h3 (qc (Eq.refl ((0 : Int))) (qc (Eq.refl s) (qc (Eq.refl r) (qc (Eq.refl n) (qc h4 (qc h5 (qn)))))))))))))⟩
theorem turn_run (x n : Int)
 (h1 : ((0 : Int) ≤ n))
 (h2 : ((0 : Int) ≤ (Go.IntKind.wrap Go.IntKind.u64 ((32 : Int) - n)))) :
 ∃ ps, runF Tryd.prog DS [] 100 Tryd.f38 [.one (.int .u32 false x), .one (.int .u64 false n)] [] = some ((AV.v (A0.one (Part.int Go.IntKind.u32 ((false && false) && (false && false)) (bitsOf Go.BinOp.or Go.IntKind.u32 (Int.fdiv x ((2 : Int) ^ (min (Int.toNat n) (32 : Nat)))) (Go.IntKind.wrap Go.IntKind.u32 (x * ((2 : Int) ^ (min (Int.toNat (Go.IntKind.wrap Go.IntKind.u64 ((32 : Int) - n))) (32 : Nat))))))))), ps) ∧ AllQ ps := ⟨_, by kernel_rfl, qc h1 (qc h2 (qn))⟩
theorem mul_run (x n : Int) :
 ∃ ps, runF Tryd.prog DS [] 100 Tryd.f47 [.one (.int .u64 false x), .one (.int .u64 false n)] [] = some ((AV.tup [(A0.one (Part.int Go.IntKind.u64 false (Go.IntKind.wrap Go.IntKind.u64 ((Go.IntKind.wrap Go.IntKind.u64 ((Go.IntKind.wrap Go.IntKind.u64 ((Int.fdiv x ((2 : Int) ^ (min (32 : Nat) (64 : Nat)))) * (Int.fdiv n ((2 : Int) ^ (min (32 : Nat) (64 : Nat)))))) + (Int.fdiv (Go.IntKind.wrap Go.IntKind.u64 ((Go.IntKind.wrap Go.IntKind.u64 ((Int.fdiv x ((2 : Int) ^ (min (32 : Nat) (64 : Nat)))) * (bitsOf Go.BinOp.and Go.IntKind.u64 n (4294967295 : Int)))) + (Int.fdiv (Go.IntKind.wrap Go.IntKind.u64 ((bitsOf Go.BinOp.and Go.IntKind.u64 x (4294967295 : Int)) * (bitsOf Go.BinOp.and Go.IntKind.u64 n (4294967295 : Int)))) ((2 : Int) ^ (min (32 : Nat) (64 : Nat)))))) ((2 : Int) ^ (min (32 : Nat) (64 : Nat)))))) + (Int.fdiv (Go.IntKind.wrap Go.IntKind.u64 ((Go.IntKind.wrap Go.IntKind.u64 ((bitsOf Go.BinOp.and Go.IntKind.u64 x (4294967295 : Int)) * (Int.fdiv n ((2 : Int) ^ (min (32 : Nat) (64 : Nat)))))) + (bitsOf Go.BinOp.and Go.IntKind.u64 (Go.IntKind.wrap Go.IntKind.u64 ((Go.IntKind.wrap Go.IntKind.u64 ((Int.fdiv x ((2 : Int) ^ (min (32 : Nat) (64 : Nat)))) * (bitsOf Go.BinOp.and Go.IntKind.u64 n (4294967295 : Int)))) + (Int.fdiv (Go.IntKind.wrap Go.IntKind.u64 ((bitsOf Go.BinOp.and Go.IntKind.u64 x (4294967295 : Int)) * (bitsOf Go.BinOp.and Go.IntKind.u64 n (4294967295 : Int)))) ((2 : Int) ^ (min (32 : Nat) (64 : Nat)))))) (4294967295 : Int)))) ((2 : Int) ^ (min (32 : Nat) (64 : Nat)))))))), (A0.one (Part.int Go.IntKind.u64 ((false && true) && (false && true)) (bitsOf Go.BinOp.or Go.IntKind.u64 (Go.IntKind.wrap Go.IntKind.u64 ((Go.IntKind.wrap Go.IntKind.u64 ((Go.IntKind.wrap Go.IntKind.u64 ((bitsOf Go.BinOp.and Go.IntKind.u64 x (4294967295 : Int)) * (Int.fdiv n ((2 : Int) ^ (min (32 : Nat) (64 : Nat)))))) + (bitsOf Go.BinOp.and Go.IntKind.u64 (Go.IntKind.wrap Go.IntKind.u64 ((Go.IntKind.wrap Go.IntKind.u64 ((Int.fdiv x ((2 : Int) ^ (min (32 : Nat) (64 : Nat)))) * (bitsOf Go.BinOp.and Go.IntKind.u64 n (4294967295 : Int)))) + (Int.fdiv (Go.IntKind.wrap Go.IntKind.u64 ((bitsOf Go.BinOp.and Go.IntKind.u64 x (4294967295 : Int)) * (bitsOf Go.BinOp.and Go.IntKind.u64 n (4294967295 : Int)))) ((2 : Int) ^ (min (32 : Nat) (64 : Nat)))))) (4294967295 : Int)))) * ((2 : Int) ^ (min (32 : Nat) (64 : Nat))))) (bitsOf Go.BinOp.and Go.IntKind.u64 (Go.IntKind.wrap Go.IntKind.u64 ((bitsOf Go.BinOp.and Go.IntKind.u64 x (4294967295 : Int)) * (bitsOf Go.BinOp.and Go.IntKind.u64 n (4294967295 : Int)))) (4294967295 : Int)))))]), ps) ∧ AllQ ps := ⟨_, by kernel_rfl, qn⟩
def mulHi (x n : Int) : Int := IntKind.u64.wrap ((IntKind.u64.wrap ((IntKind.u64.wrap ((Int.fdiv x (2 ^ (min 32 64))) * (Int.fdiv n (2 ^ (min 32 64))))) + (Int.fdiv (IntKind.u64.wrap ((IntKind.u64.wrap ((Int.fdiv x (2 ^ (min 32 64))) * (bitsOf .and .u64 n 4294967295))) + (Int.fdiv (IntKind.u64.wrap ((bitsOf .and .u64 x 4294967295) * (bitsOf .and .u64 n 4294967295))) (2 ^ (min 32 64))))) (2 ^ (min 32 64))))) + (Int.fdiv (IntKind.u64.wrap ((IntKind.u64.wrap ((bitsOf .and .u64 x 4294967295) * (Int.fdiv n (2 ^ (min 32 64))))) + (bitsOf .and .u64 (IntKind.u64.wrap ((IntKind.u64.wrap ((Int.fdiv x (2 ^ (min 32 64))) * (bitsOf .and .u64 n 4294967295))) + (Int.fdiv (IntKind.u64.wrap ((bitsOf .and .u64 x 4294967295) * (bitsOf .and .u64 n 4294967295))) (2 ^ (min 32 64))))) 4294967295))) (2 ^ (min 32 64))))
def mulLo (x n : Int) : Int := bitsOf .or .u64 (IntKind.u64.wrap ((IntKind.u64.wrap ((IntKind.u64.wrap ((bitsOf .and .u64 x 4294967295) * (Int.fdiv n (2 ^ (min 32 64))))) + (bitsOf .and .u64 (IntKind.u64.wrap ((IntKind.u64.wrap ((Int.fdiv x (2 ^ (min 32 64))) * (bitsOf .and .u64 n 4294967295))) + (Int.fdiv (IntKind.u64.wrap ((bitsOf .and .u64 x 4294967295) * (bitsOf .and .u64 n 4294967295))) (2 ^ (min 32 64))))) 4294967295))) * (2 ^ (min 32 64)))) (bitsOf .and .u64 (IntKind.u64.wrap ((bitsOf .and .u64 x 4294967295) * (bitsOf .and .u64 n 4294967295))) 4294967295)
def mulD : FnD DS
  | [.one (.int .u64 _ a), .one (.int .u64 _ b)] => some (.tup [.one (.int .u64 false (mulHi a b)), .one (.int .u64 false (mulLo a b))], [])
  | _ => none
noncomputable def gamQ : Gam DS := [(47, .fn mulD)]
def sqSn (p x bit : Int) : Sn DS.τ where
  slots := [(0, .v (.one (.int .u64 false p))), (3, .v (.one (.int .u64 false x))), (4, .v (.one (.int .i64 false bit)))]
  boxes := []
  nt := 38
def cbSn (p x bit : Int) : Sn DS.τ where
  slots := [(0, .v (.one (.int .u64 false p))), (3, .v (.one (.int .u64 false x))), (4, .v (.one (.int .i64 false bit)))]
  boxes := []
  nt := 69
theorem sq_t1 (p x x' bit : Int)
 (h1 : ((decide (bit ≥ (0 : Int))) = true))
 (h2 : ((0 : Int) ≤ (Go.IntKind.wrap Go.IntKind.u64 bit)))
 (h3 : ((decide ((mulHi (bitsOf Go.BinOp.or Go.IntKind.u64 x (Go.IntKind.wrap Go.IntKind.u64 ((1 : Int) * ((2 : Int) ^ (min (Int.toNat (Go.IntKind.wrap Go.IntKind.u64 bit)) (64 : Nat)))))) (bitsOf Go.BinOp.or Go.IntKind.u64 x (Go.IntKind.wrap Go.IntKind.u64 ((1 : Int) * ((2 : Int) ^ (min (Int.toNat (Go.IntKind.wrap Go.IntKind.u64 bit)) (64 : Nat))))))) < p)) = true))
 (h4 : (InI64 (bit - (1 : Int))))
 (h5 : ((bitsOf Go.BinOp.or Go.IntKind.u64 x (Go.IntKind.wrap Go.IntKind.u64 ((1 : Int) * ((2 : Int) ^ (min (Int.toNat (Go.IntKind.wrap Go.IntKind.u64 bit)) (64 : Nat)))))) = x')) :
 ∃ ps, stepPs Tryd.prog DS gamQ 100 (bodyN Tryd.f37 0) 100 (sqSn p x bit).st [.is true, .is true] .normal (sqSn p x' (bit - 1)) = some ps ∧ AllQ ps := ⟨_, by kernel_rfl, qc h1 (qc h2 (qc h3 (qc h4 (qc (Eq.refl p) (qc h5 (qc (Eq.refl ((bit - (1 : Int)))) (qn)))))))⟩
theorem sq_t2 (p x x' bit : Int)
 (h1 : ((decide (bit ≥ (0 : Int))) = true))
 (h2 : ((0 : Int) ≤ (Go.IntKind.wrap Go.IntKind.u64 bit)))
 (h3 : ((decide ((mulHi (bitsOf Go.BinOp.or Go.IntKind.u64 x (Go.IntKind.wrap Go.IntKind.u64 ((1 : Int) * ((2 : Int) ^ (min (Int.toNat (Go.IntKind.wrap Go.IntKind.u64 bit)) (64 : Nat)))))) (bitsOf Go.BinOp.or Go.IntKind.u64 x (Go.IntKind.wrap Go.IntKind.u64 ((1 : Int) * ((2 : Int) ^ (min (Int.toNat (Go.IntKind.wrap Go.IntKind.u64 bit)) (64 : Nat))))))) < p)) = false))
 (h4 : (((mulHi (bitsOf Go.BinOp.or Go.IntKind.u64 x (Go.IntKind.wrap Go.IntKind.u64 ((1 : Int) * ((2 : Int) ^ (min (Int.toNat (Go.IntKind.wrap Go.IntKind.u64 bit)) (64 : Nat)))))) (bitsOf Go.BinOp.or Go.IntKind.u64 x (Go.IntKind.wrap Go.IntKind.u64 ((1 : Int) * ((2 : Int) ^ (min (Int.toNat (Go.IntKind.wrap Go.IntKind.u64 bit)) (64 : Nat))))))) == p) = true))
 (h5 : (((mulLo (bitsOf Go.BinOp.or Go.IntKind.u64 x (Go.IntKind.wrap Go.IntKind.u64 ((1 : Int) * ((2 : Int) ^ (min (Int.toNat (Go.IntKind.wrap Go.IntKind.u64 bit)) (64 : Nat)))))) (bitsOf Go.BinOp.or Go.IntKind.u64 x (Go.IntKind.wrap Go.IntKind.u64 ((1 : Int) * ((2 : Int) ^ (min (Int.toNat (Go.IntKind.wrap Go.IntKind.u64 bit)) (64 : Nat))))))) == (0 : Int)) = true))
 (h6 : (InI64 (bit - (1 : Int))))
 (h7 : ((bitsOf Go.BinOp.or Go.IntKind.u64 x (Go.IntKind.wrap Go.IntKind.u64 ((1 : Int) * ((2 : Int) ^ (min (Int.toNat (Go.IntKind.wrap Go.IntKind.u64 bit)) (64 : Nat)))))) = x')) :
 ∃ ps, stepPs Tryd.prog DS gamQ 100 (bodyN Tryd.f37 0) 100 (sqSn p x bit).st [.is true, .is false, .is true, .is true] .normal (sqSn p x' (bit - 1)) = some ps ∧ AllQ ps := ⟨_, by kernel_rfl, qc h1 (qc h2 (qc h3 (qc h4 (qc h5 (qc h6 (qc (Eq.refl p) (qc h7 (qc (Eq.refl ((bit - (1 : Int)))) (qn)))))))))⟩
theorem sq_t3 (p x x' bit : Int)
 (h1 : ((decide (bit ≥ (0 : Int))) = true))
 (h2 : ((0 : Int) ≤ (Go.IntKind.wrap Go.IntKind.u64 bit)))
 (h3 : ((decide ((mulHi (bitsOf Go.BinOp.or Go.IntKind.u64 x (Go.IntKind.wrap Go.IntKind.u64 ((1 : Int) * ((2 : Int) ^ (min (Int.toNat (Go.IntKind.wrap Go.IntKind.u64 bit)) (64 : Nat)))))) (bitsOf Go.BinOp.or Go.IntKind.u64 x (Go.IntKind.wrap Go.IntKind.u64 ((1 : Int) * ((2 : Int) ^ (min (Int.toNat (Go.IntKind.wrap Go.IntKind.u64 bit)) (64 : Nat))))))) < p)) = false))
 (h4 : (((mulHi (bitsOf Go.BinOp.or Go.IntKind.u64 x (Go.IntKind.wrap Go.IntKind.u64 ((1 : Int) * ((2 : Int) ^ (min (Int.toNat (Go.IntKind.wrap Go.IntKind.u64 bit)) (64 : Nat)))))) (bitsOf Go.BinOp.or Go.IntKind.u64 x (Go.IntKind.wrap Go.IntKind.u64 ((1 : Int) * ((2 : Int) ^ (min (Int.toNat (Go.IntKind.wrap Go.IntKind.u64 bit)) (64 : Nat))))))) == p) = true))
 (h5 : (((mulLo (bitsOf Go.BinOp.or Go.IntKind.u64 x (Go.IntKind.wrap Go.IntKind.u64 ((1 : Int) * ((2 : Int) ^ (min (Int.toNat (Go.IntKind.wrap Go.IntKind.u64 bit)) (64 : Nat)))))) (bitsOf Go.BinOp.or Go.IntKind.u64 x (Go.IntKind.wrap Go.IntKind.u64 ((1 : Int) * ((2 : Int) ^ (min (Int.toNat (Go.IntKind.wrap Go.IntKind.u64 bit)) (64 : Nat))))))) == (0 : Int)) = false))
 (h6 : (InI64 (bit - (1 : Int))))
 (h7 : (x = x')) :
 ∃ ps, stepPs Tryd.prog DS gamQ 100 (bodyN Tryd.f37 0) 100 (sqSn p x bit).st [.is true, .is false, .is true, .is false] .normal (sqSn p x' (bit - 1)) = some ps ∧ AllQ ps := ⟨_, by kernel_rfl, qc h1 (qc h2 (qc h3 (qc h4 (qc h5 (qc h6 (qc (Eq.refl p) (qc h7 (qc (Eq.refl ((bit - (1 : Int)))) (qn)))))))))⟩
theorem sq_t4 (p x x' bit : Int)
 (h1 : ((decide (bit ≥ (0 : Int))) = true))
 (h2 : ((0 : Int) ≤ (Go.IntKind.wrap Go.IntKind.u64 bit)))
 (h3 : ((decide ((mulHi (bitsOf Go.BinOp.or Go.IntKind.u64 x (Go.IntKind.wrap Go.IntKind.u64 ((1 : Int) * ((2 : Int) ^ (min (Int.toNat (Go.IntKind.wrap Go.IntKind.u64 bit)) (64 : Nat)))))) (bitsOf Go.BinOp.or Go.IntKind.u64 x (Go.IntKind.wrap Go.IntKind.u64 ((1 : Int) * ((2 : Int) ^ (min (Int.toNat (Go.IntKind.wrap Go.IntKind.u64 bit)) (64 : Nat))))))) < p)) = false))
 (h4 : (((mulHi (bitsOf Go.BinOp.or Go.IntKind.u64 x (Go.IntKind.wrap Go.IntKind.u64 ((1 : Int) * ((2 : Int) ^ (min (Int.toNat (Go.IntKind.wrap Go.IntKind.u64 bit)) (64 : Nat)))))) (bitsOf Go.BinOp.or Go.IntKind.u64 x (Go.IntKind.wrap Go.IntKind.u64 ((1 : Int) * ((2 : Int) ^ (min (Int.toNat (Go.IntKind.wrap Go.IntKind.u64 bit)) (64 : Nat))))))) == p) = false))
 (h5 : (InI64 (bit - (1 : Int))))
 (h6 : (x = x')) :
 ∃ ps, stepPs Tryd.prog DS gamQ 100 (bodyN Tryd.f37 0) 100 (sqSn p x bit).st [.is true, .is false, .is false] .normal (sqSn p x' (bit - 1)) = some ps ∧ AllQ ps := ⟨_, by kernel_rfl, qc h1 (qc h2 (qc h3 (qc h4 (qc h5 (qc (Eq.refl p) (qc h6 (qc (Eq.refl ((bit - (1 : Int)))) (qn))))))))⟩
theorem sq_exit (p x bit : Int)
 (h1 : ((decide (bit ≥ (0 : Int))) = false)) :
 ∃ ps, stepPs Tryd.prog DS gamQ 100 (bodyN Tryd.f37 0) 100 (sqSn p x bit).st [.is false] (.exit 0) (sqSn p x bit) = some ps ∧ AllQ ps := ⟨_, by kernel_rfl, qc h1 (qc (Eq.refl p) (qc (Eq.refl x) (qc (Eq.refl bit) (qn))))⟩
theorem sq_run (p x bit : Int)
 (h1 : SumOK Tryd.prog DS (bodyN Tryd.f37 0) (loopL DS (sqSn p 0 40) (.exit 0) (sqSn p x bit))) :
 ∃ ps, runF Tryd.prog DS gamQ 100 Tryd.f37 [.one (.int .u64 false p)] [.loop (loopL DS (sqSn p 0 40) (.exit 0) (sqSn p x bit))] = some ((AV.v (A0.one (Part.int Go.IntKind.u32 false (Go.IntKind.wrap Go.IntKind.u32 x)))), ps) ∧ AllQ ps := ⟨_, by kernel_rfl, qc h1 (qc (Eq.refl p) (qc (Eq.refl ((0 : Int))) (qc (Eq.refl ((40 : Int))) (qn))))⟩
theorem cb_c_ne (p x x' bit : Int)
 (h1 : ((decide (bit ≥ (0 : Int))) = true))
 (h2 : ((0 : Int) ≤ (Go.IntKind.wrap Go.IntKind.u64 bit)))
 (h3 : ((decide ((Go.IntKind.wrap Go.IntKind.u64 ((mulLo (mulHi (bitsOf Go.BinOp.or Go.IntKind.u64 x (Go.IntKind.wrap Go.IntKind.u64 ((1 : Int) * ((2 : Int) ^ (min (Int.toNat (Go.IntKind.wrap Go.IntKind.u64 bit)) (64 : Nat)))))) (bitsOf Go.BinOp.or Go.IntKind.u64 x (Go.IntKind.wrap Go.IntKind.u64 ((1 : Int) * ((2 : Int) ^ (min (Int.toNat (Go.IntKind.wrap Go.IntKind.u64 bit)) (64 : Nat))))))) (bitsOf Go.BinOp.or Go.IntKind.u64 x (Go.IntKind.wrap Go.IntKind.u64 ((1 : Int) * ((2 : Int) ^ (min (Int.toNat (Go.IntKind.wrap Go.IntKind.u64 bit)) (64 : Nat))))))) + (mulHi (mulLo (bitsOf Go.BinOp.or Go.IntKind.u64 x (Go.IntKind.wrap Go.IntKind.u64 ((1 : Int) * ((2 : Int) ^ (min (Int.toNat (Go.IntKind.wrap Go.IntKind.u64 bit)) (64 : Nat)))))) (bitsOf Go.BinOp.or Go.IntKind.u64 x (Go.IntKind.wrap Go.IntKind.u64 ((1 : Int) * ((2 : Int) ^ (min (Int.toNat (Go.IntKind.wrap Go.IntKind.u64 bit)) (64 : Nat))))))) (bitsOf Go.BinOp.or Go.IntKind.u64 x (Go.IntKind.wrap Go.IntKind.u64 ((1 : Int) * ((2 : Int) ^ (min (Int.toNat (Go.IntKind.wrap Go.IntKind.u64 bit)) (64 : Nat))))))))) < (mulLo (mulHi (bitsOf Go.BinOp.or Go.IntKind.u64 x (Go.IntKind.wrap Go.IntKind.u64 ((1 : Int) * ((2 : Int) ^ (min (Int.toNat (Go.IntKind.wrap Go.IntKind.u64 bit)) (64 : Nat)))))) (bitsOf Go.BinOp.or Go.IntKind.u64 x (Go.IntKind.wrap Go.IntKind.u64 ((1 : Int) * ((2 : Int) ^ (min (Int.toNat (Go.IntKind.wrap Go.IntKind.u64 bit)) (64 : Nat))))))) (bitsOf Go.BinOp.or Go.IntKind.u64 x (Go.IntKind.wrap Go.IntKind.u64 ((1 : Int) * ((2 : Int) ^ (min (Int.toNat (Go.IntKind.wrap Go.IntKind.u64 bit)) (64 : Nat))))))))) = true))
 (h4 : (((Go.IntKind.wrap Go.IntKind.u64 ((mulHi (mulHi (bitsOf Go.BinOp.or Go.IntKind.u64 x (Go.IntKind.wrap Go.IntKind.u64 ((1 : Int) * ((2 : Int) ^ (min (Int.toNat (Go.IntKind.wrap Go.IntKind.u64 bit)) (64 : Nat)))))) (bitsOf Go.BinOp.or Go.IntKind.u64 x (Go.IntKind.wrap Go.IntKind.u64 ((1 : Int) * ((2 : Int) ^ (min (Int.toNat (Go.IntKind.wrap Go.IntKind.u64 bit)) (64 : Nat))))))) (bitsOf Go.BinOp.or Go.IntKind.u64 x (Go.IntKind.wrap Go.IntKind.u64 ((1 : Int) * ((2 : Int) ^ (min (Int.toNat (Go.IntKind.wrap Go.IntKind.u64 bit)) (64 : Nat))))))) + (1 : Int))) == (0 : Int)) = false))
 (h5 : (InI64 (bit - (1 : Int))))
 (h6 : (x = x')) :
 ∃ ps, stepPs Tryd.prog DS gamQ 100 (bodyN Tryd.f36 0) 100 (cbSn p x bit).st [.is true, .is true, .is false] .normal (cbSn p x' (bit - 1)) = some ps ∧ AllQ ps := ⟨_, by kernel_rfl, qc h1 (qc h2 (qc h3 (qc h4 (qc h5 (qc (Eq.refl p) (qc h6 (qc (Eq.refl ((bit - (1 : Int)))) (qn))))))))⟩
theorem cb_c_lt (p x x' bit : Int)
 (h1 : ((decide (bit ≥ (0 : Int))) = true))
 (h2 : ((0 : Int) ≤ (Go.IntKind.wrap Go.IntKind.u64 bit)))
 (h3 : ((decide ((Go.IntKind.wrap Go.IntKind.u64 ((mulLo (mulHi (bitsOf Go.BinOp.or Go.IntKind.u64 x (Go.IntKind.wrap Go.IntKind.u64 ((1 : Int) * ((2 : Int) ^ (min (Int.toNat (Go.IntKind.wrap Go.IntKind.u64 bit)) (64 : Nat)))))) (bitsOf Go.BinOp.or Go.IntKind.u64 x (Go.IntKind.wrap Go.IntKind.u64 ((1 : Int) * ((2 : Int) ^ (min (Int.toNat (Go.IntKind.wrap Go.IntKind.u64 bit)) (64 : Nat))))))) (bitsOf Go.BinOp.or Go.IntKind.u64 x (Go.IntKind.wrap Go.IntKind.u64 ((1 : Int) * ((2 : Int) ^ (min (Int.toNat (Go.IntKind.wrap Go.IntKind.u64 bit)) (64 : Nat))))))) + (mulHi (mulLo (bitsOf Go.BinOp.or Go.IntKind.u64 x (Go.IntKind.wrap Go.IntKind.u64 ((1 : Int) * ((2 : Int) ^ (min (Int.toNat (Go.IntKind.wrap Go.IntKind.u64 bit)) (64 : Nat)))))) (bitsOf Go.BinOp.or Go.IntKind.u64 x (Go.IntKind.wrap Go.IntKind.u64 ((1 : Int) * ((2 : Int) ^ (min (Int.toNat (Go.IntKind.wrap Go.IntKind.u64 bit)) (64 : Nat))))))) (bitsOf Go.BinOp.or Go.IntKind.u64 x (Go.IntKind.wrap Go.IntKind.u64 ((1 : Int) * ((2 : Int) ^ (min (Int.toNat (Go.IntKind.wrap Go.IntKind.u64 bit)) (64 : Nat))))))))) < (mulLo (mulHi (bitsOf Go.BinOp.or Go.IntKind.u64 x (Go.IntKind.wrap Go.IntKind.u64 ((1 : Int) * ((2 : Int) ^ (min (Int.toNat (Go.IntKind.wrap Go.IntKind.u64 bit)) (64 : Nat)))))) (bitsOf Go.BinOp.or Go.IntKind.u64 x (Go.IntKind.wrap Go.IntKind.u64 ((1 : Int) * ((2 : Int) ^ (min (Int.toNat (Go.IntKind.wrap Go.IntKind.u64 bit)) (64 : Nat))))))) (bitsOf Go.BinOp.or Go.IntKind.u64 x (Go.IntKind.wrap Go.IntKind.u64 ((1 : Int) * ((2 : Int) ^ (min (Int.toNat (Go.IntKind.wrap Go.IntKind.u64 bit)) (64 : Nat))))))))) = true))
 (h4 : (((Go.IntKind.wrap Go.IntKind.u64 ((mulHi (mulHi (bitsOf Go.BinOp.or Go.IntKind.u64 x (Go.IntKind.wrap Go.IntKind.u64 ((1 : Int) * ((2 : Int) ^ (min (Int.toNat (Go.IntKind.wrap Go.IntKind.u64 bit)) (64 : Nat)))))) (bitsOf Go.BinOp.or Go.IntKind.u64 x (Go.IntKind.wrap Go.IntKind.u64 ((1 : Int) * ((2 : Int) ^ (min (Int.toNat (Go.IntKind.wrap Go.IntKind.u64 bit)) (64 : Nat))))))) (bitsOf Go.BinOp.or Go.IntKind.u64 x (Go.IntKind.wrap Go.IntKind.u64 ((1 : Int) * ((2 : Int) ^ (min (Int.toNat (Go.IntKind.wrap Go.IntKind.u64 bit)) (64 : Nat))))))) + (1 : Int))) == (0 : Int)) = true))
 (h5 : ((decide ((Go.IntKind.wrap Go.IntKind.u64 ((mulLo (mulHi (bitsOf Go.BinOp.or Go.IntKind.u64 x (Go.IntKind.wrap Go.IntKind.u64 ((1 : Int) * ((2 : Int) ^ (min (Int.toNat (Go.IntKind.wrap Go.IntKind.u64 bit)) (64 : Nat)))))) (bitsOf Go.BinOp.or Go.IntKind.u64 x (Go.IntKind.wrap Go.IntKind.u64 ((1 : Int) * ((2 : Int) ^ (min (Int.toNat (Go.IntKind.wrap Go.IntKind.u64 bit)) (64 : Nat))))))) (bitsOf Go.BinOp.or Go.IntKind.u64 x (Go.IntKind.wrap Go.IntKind.u64 ((1 : Int) * ((2 : Int) ^ (min (Int.toNat (Go.IntKind.wrap Go.IntKind.u64 bit)) (64 : Nat))))))) + (mulHi (mulLo (bitsOf Go.BinOp.or Go.IntKind.u64 x (Go.IntKind.wrap Go.IntKind.u64 ((1 : Int) * ((2 : Int) ^ (min (Int.toNat (Go.IntKind.wrap Go.IntKind.u64 bit)) (64 : Nat)))))) (bitsOf Go.BinOp.or Go.IntKind.u64 x (Go.IntKind.wrap Go.IntKind.u64 ((1 : Int) * ((2 : Int) ^ (min (Int.toNat (Go.IntKind.wrap Go.IntKind.u64 bit)) (64 : Nat))))))) (bitsOf Go.BinOp.or Go.IntKind.u64 x (Go.IntKind.wrap Go.IntKind.u64 ((1 : Int) * ((2 : Int) ^ (min (Int.toNat (Go.IntKind.wrap Go.IntKind.u64 bit)) (64 : Nat))))))))) < (Go.IntKind.wrap Go.IntKind.u64 (p * ((2 : Int) ^ (min (32 : Nat) (64 : Nat))))))) = true))
 (h6 : (InI64 (bit - (1 : Int))))
 (h7 : ((bitsOf Go.BinOp.or Go.IntKind.u64 x (Go.IntKind.wrap Go.IntKind.u64 ((1 : Int) * ((2 : Int) ^ (min (Int.toNat (Go.IntKind.wrap Go.IntKind.u64 bit)) (64 : Nat)))))) = x')) :
 ∃ ps, stepPs Tryd.prog DS gamQ 100 (bodyN Tryd.f36 0) 100 (cbSn p x bit).st [.is true, .is true, .is true, .is true] .normal (cbSn p x' (bit - 1)) = some ps ∧ AllQ ps := ⟨_, by kernel_rfl, qc h1 (qc h2 (qc h3 (qc h4 (qc h5 (qc h6 (qc (Eq.refl p) (qc h7 (qc (Eq.refl ((bit - (1 : Int)))) (qn)))))))))⟩
theorem cb_c_eq0 (p x x' bit : Int)
 (h1 : ((decide (bit ≥ (0 : Int))) = true))
 (h2 : ((0 : Int) ≤ (Go.IntKind.wrap Go.IntKind.u64 bit)))
 (h3 : ((decide ((Go.IntKind.wrap Go.IntKind.u64 ((mulLo (mulHi (bitsOf Go.BinOp.or Go.IntKind.u64 x (Go.IntKind.wrap Go.IntKind.u64 ((1 : Int) * ((2 : Int) ^ (min (Int.toNat (Go.IntKind.wrap Go.IntKind.u64 bit)) (64 : Nat)))))) (bitsOf Go.BinOp.or Go.IntKind.u64 x (Go.IntKind.wrap Go.IntKind.u64 ((1 : Int) * ((2 : Int) ^ (min (Int.toNat (Go.IntKind.wrap Go.IntKind.u64 bit)) (64 : Nat))))))) (bitsOf Go.BinOp.or Go.IntKind.u64 x (Go.IntKind.wrap Go.IntKind.u64 ((1 : Int) * ((2 : Int) ^ (min (Int.toNat (Go.IntKind.wrap Go.IntKind.u64 bit)) (64 : Nat))))))) + (mulHi (mulLo (bitsOf Go.BinOp.or Go.IntKind.u64 x (Go.IntKind.wrap Go.IntKind.u64 ((1 : Int) * ((2 : Int) ^ (min (Int.toNat (Go.IntKind.wrap Go.IntKind.u64 bit)) (64 : Nat)))))) (bitsOf Go.BinOp.or Go.IntKind.u64 x (Go.IntKind.wrap Go.IntKind.u64 ((1 : Int) * ((2 : Int) ^ (min (Int.toNat (Go.IntKind.wrap Go.IntKind.u64 bit)) (64 : Nat))))))) (bitsOf Go.BinOp.or Go.IntKind.u64 x (Go.IntKind.wrap Go.IntKind.u64 ((1 : Int) * ((2 : Int) ^ (min (Int.toNat (Go.IntKind.wrap Go.IntKind.u64 bit)) (64 : Nat))))))))) < (mulLo (mulHi (bitsOf Go.BinOp.or Go.IntKind.u64 x (Go.IntKind.wrap Go.IntKind.u64 ((1 : Int) * ((2 : Int) ^ (min (Int.toNat (Go.IntKind.wrap Go.IntKind.u64 bit)) (64 : Nat)))))) (bitsOf Go.BinOp.or Go.IntKind.u64 x (Go.IntKind.wrap Go.IntKind.u64 ((1 : Int) * ((2 : Int) ^ (min (Int.toNat (Go.IntKind.wrap Go.IntKind.u64 bit)) (64 : Nat))))))) (bitsOf Go.BinOp.or Go.IntKind.u64 x (Go.IntKind.wrap Go.IntKind.u64 ((1 : Int) * ((2 : Int) ^ (min (Int.toNat (Go.IntKind.wrap Go.IntKind.u64 bit)) (64 : Nat))))))))) = true))
 (h4 : (((Go.IntKind.wrap Go.IntKind.u64 ((mulHi (mulHi (bitsOf Go.BinOp.or Go.IntKind.u64 x (Go.IntKind.wrap Go.IntKind.u64 ((1 : Int) * ((2 : Int) ^ (min (Int.toNat (Go.IntKind.wrap Go.IntKind.u64 bit)) (64 : Nat)))))) (bitsOf Go.BinOp.or Go.IntKind.u64 x (Go.IntKind.wrap Go.IntKind.u64 ((1 : Int) * ((2 : Int) ^ (min (Int.toNat (Go.IntKind.wrap Go.IntKind.u64 bit)) (64 : Nat))))))) (bitsOf Go.BinOp.or Go.IntKind.u64 x (Go.IntKind.wrap Go.IntKind.u64 ((1 : Int) * ((2 : Int) ^ (min (Int.toNat (Go.IntKind.wrap Go.IntKind.u64 bit)) (64 : Nat))))))) + (1 : Int))) == (0 : Int)) = true))
 (h5 : ((decide ((Go.IntKind.wrap Go.IntKind.u64 ((mulLo (mulHi (bitsOf Go.BinOp.or Go.IntKind.u64 x (Go.IntKind.wrap Go.IntKind.u64 ((1 : Int) * ((2 : Int) ^ (min (Int.toNat (Go.IntKind.wrap Go.IntKind.u64 bit)) (64 : Nat)))))) (bitsOf Go.BinOp.or Go.IntKind.u64 x (Go.IntKind.wrap Go.IntKind.u64 ((1 : Int) * ((2 : Int) ^ (min (Int.toNat (Go.IntKind.wrap Go.IntKind.u64 bit)) (64 : Nat))))))) (bitsOf Go.BinOp.or Go.IntKind.u64 x (Go.IntKind.wrap Go.IntKind.u64 ((1 : Int) * ((2 : Int) ^ (min (Int.toNat (Go.IntKind.wrap Go.IntKind.u64 bit)) (64 : Nat))))))) + (mulHi (mulLo (bitsOf Go.BinOp.or Go.IntKind.u64 x (Go.IntKind.wrap Go.IntKind.u64 ((1 : Int) * ((2 : Int) ^ (min (Int.toNat (Go.IntKind.wrap Go.IntKind.u64 bit)) (64 : Nat)))))) (bitsOf Go.BinOp.or Go.IntKind.u64 x (Go.IntKind.wrap Go.IntKind.u64 ((1 : Int) * ((2 : Int) ^ (min (Int.toNat (Go.IntKind.wrap Go.IntKind.u64 bit)) (64 : Nat))))))) (bitsOf Go.BinOp.or Go.IntKind.u64 x (Go.IntKind.wrap Go.IntKind.u64 ((1 : Int) * ((2 : Int) ^ (min (Int.toNat (Go.IntKind.wrap Go.IntKind.u64 bit)) (64 : Nat))))))))) < (Go.IntKind.wrap Go.IntKind.u64 (p * ((2 : Int) ^ (min (32 : Nat) (64 : Nat))))))) = false))
 (h6 : (((Go.IntKind.wrap Go.IntKind.u64 ((mulLo (mulHi (bitsOf Go.BinOp.or Go.IntKind.u64 x (Go.IntKind.wrap Go.IntKind.u64 ((1 : Int) * ((2 : Int) ^ (min (Int.toNat (Go.IntKind.wrap Go.IntKind.u64 bit)) (64 : Nat)))))) (bitsOf Go.BinOp.or Go.IntKind.u64 x (Go.IntKind.wrap Go.IntKind.u64 ((1 : Int) * ((2 : Int) ^ (min (Int.toNat (Go.IntKind.wrap Go.IntKind.u64 bit)) (64 : Nat))))))) (bitsOf Go.BinOp.or Go.IntKind.u64 x (Go.IntKind.wrap Go.IntKind.u64 ((1 : Int) * ((2 : Int) ^ (min (Int.toNat (Go.IntKind.wrap Go.IntKind.u64 bit)) (64 : Nat))))))) + (mulHi (mulLo (bitsOf Go.BinOp.or Go.IntKind.u64 x (Go.IntKind.wrap Go.IntKind.u64 ((1 : Int) * ((2 : Int) ^ (min (Int.toNat (Go.IntKind.wrap Go.IntKind.u64 bit)) (64 : Nat)))))) (bitsOf Go.BinOp.or Go.IntKind.u64 x (Go.IntKind.wrap Go.IntKind.u64 ((1 : Int) * ((2 : Int) ^ (min (Int.toNat (Go.IntKind.wrap Go.IntKind.u64 bit)) (64 : Nat))))))) (bitsOf Go.BinOp.or Go.IntKind.u64 x (Go.IntKind.wrap Go.IntKind.u64 ((1 : Int) * ((2 : Int) ^ (min (Int.toNat (Go.IntKind.wrap Go.IntKind.u64 bit)) (64 : Nat))))))))) == (Go.IntKind.wrap Go.IntKind.u64 (p * ((2 : Int) ^ (min (32 : Nat) (64 : Nat)))))) = true))
 (h7 : (((mulLo (mulLo (bitsOf Go.BinOp.or Go.IntKind.u64 x (Go.IntKind.wrap Go.IntKind.u64 ((1 : Int) * ((2 : Int) ^ (min (Int.toNat (Go.IntKind.wrap Go.IntKind.u64 bit)) (64 : Nat)))))) (bitsOf Go.BinOp.or Go.IntKind.u64 x (Go.IntKind.wrap Go.IntKind.u64 ((1 : Int) * ((2 : Int) ^ (min (Int.toNat (Go.IntKind.wrap Go.IntKind.u64 bit)) (64 : Nat))))))) (bitsOf Go.BinOp.or Go.IntKind.u64 x (Go.IntKind.wrap Go.IntKind.u64 ((1 : Int) * ((2 : Int) ^ (min (Int.toNat (Go.IntKind.wrap Go.IntKind.u64 bit)) (64 : Nat))))))) == (0 : Int)) = true))
 (h8 : (InI64 (bit - (1 : Int))))
 (h9 : ((bitsOf Go.BinOp.or Go.IntKind.u64 x (Go.IntKind.wrap Go.IntKind.u64 ((1 : Int) * ((2 : Int) ^ (min (Int.toNat (Go.IntKind.wrap Go.IntKind.u64 bit)) (64 : Nat)))))) = x')) :
 ∃ ps, stepPs Tryd.prog DS gamQ 100 (bodyN Tryd.f36 0) 100 (cbSn p x bit).st [.is true, .is true, .is true, .is false, .is true, .is true] .normal (cbSn p x' (bit - 1)) = some ps ∧ AllQ ps := ⟨_, by kernel_rfl, qc h1 (qc h2 (qc h3 (qc h4 (qc h5 (qc h6 (qc h7 (qc h8 (qc (Eq.refl p) (qc h9 (qc (Eq.refl ((bit - (1 : Int)))) (qn)))))))))))⟩
theorem cb_c_eq1 (p x x' bit : Int)
 (h1 : ((decide (bit ≥ (0 : Int))) = true))
 (h2 : ((0 : Int) ≤ (Go.IntKind.wrap Go.IntKind.u64 bit)))
 (h3 : ((decide ((Go.IntKind.wrap Go.IntKind.u64 ((mulLo (mulHi (bitsOf Go.BinOp.or Go.IntKind.u64 x (Go.IntKind.wrap Go.IntKind.u64 ((1 : Int) * ((2 : Int) ^ (min (Int.toNat (Go.IntKind.wrap Go.IntKind.u64 bit)) (64 : Nat)))))) (bitsOf Go.BinOp.or Go.IntKind.u64 x (Go.IntKind.wrap Go.IntKind.u64 ((1 : Int) * ((2 : Int) ^ (min (Int.toNat (Go.IntKind.wrap Go.IntKind.u64 bit)) (64 : Nat))))))) (bitsOf Go.BinOp.or Go.IntKind.u64 x (Go.IntKind.wrap Go.IntKind.u64 ((1 : Int) * ((2 : Int) ^ (min (Int.toNat (Go.IntKind.wrap Go.IntKind.u64 bit)) (64 : Nat))))))) + (mulHi (mulLo (bitsOf Go.BinOp.or Go.IntKind.u64 x (Go.IntKind.wrap Go.IntKind.u64 ((1 : Int) * ((2 : Int) ^ (min (Int.toNat (Go.IntKind.wrap Go.IntKind.u64 bit)) (64 : Nat)))))) (bitsOf Go.BinOp.or Go.IntKind.u64 x (Go.IntKind.wrap Go.IntKind.u64 ((1 : Int) * ((2 : Int) ^ (min (Int.toNat (Go.IntKind.wrap Go.IntKind.u64 bit)) (64 : Nat))))))) (bitsOf Go.BinOp.or Go.IntKind.u64 x (Go.IntKind.wrap Go.IntKind.u64 ((1 : Int) * ((2 : Int) ^ (min (Int.toNat (Go.IntKind.wrap Go.IntKind.u64 bit)) (64 : Nat))))))))) < (mulLo (mulHi (bitsOf Go.BinOp.or Go.IntKind.u64 x (Go.IntKind.wrap Go.IntKind.u64 ((1 : Int) * ((2 : Int) ^ (min (Int.toNat (Go.IntKind.wrap Go.IntKind.u64 bit)) (64 : Nat)))))) (bitsOf Go.BinOp.or Go.IntKind.u64 x (Go.IntKind.wrap Go.IntKind.u64 ((1 : Int) * ((2 : Int) ^ (min (Int.toNat (Go.IntKind.wrap Go.IntKind.u64 bit)) (64 : Nat))))))) (bitsOf Go.BinOp.or Go.IntKind.u64 x (Go.IntKind.wrap Go.IntKind.u64 ((1 : Int) * ((2 : Int) ^ (min (Int.toNat (Go.IntKind.wrap Go.IntKind.u64 bit)) (64 : Nat))))))))) = true))
 (h4 : (((Go.IntKind.wrap Go.IntKind.u64 ((mulHi (mulHi (bitsOf Go.BinOp.or Go.IntKind.u64 x (Go.IntKind.wrap Go.IntKind.u64 ((1 : Int) * ((2 : Int) ^ (min (Int.toNat (Go.IntKind.wrap Go.IntKind.u64 bit)) (64 : Nat)))))) (bitsOf Go.BinOp.or Go.IntKind.u64 x (Go.IntKind.wrap Go.IntKind.u64 ((1 : Int) * ((2 : Int) ^ (min (Int.toNat (Go.IntKind.wrap Go.IntKind.u64 bit)) (64 : Nat))))))) (bitsOf Go.BinOp.or Go.IntKind.u64 x (Go.IntKind.wrap Go.IntKind.u64 ((1 : Int) * ((2 : Int) ^ (min (Int.toNat (Go.IntKind.wrap Go.IntKind.u64 bit)) (64 : Nat))))))) + (1 : Int))) == (0 : Int)) = true))
 (h5 : ((decide ((Go.IntKind.wrap Go.IntKind.u64 ((mulLo (mulHi (bitsOf Go.BinOp.or Go.IntKind.u64 x (Go.IntKind.wrap Go.IntKind.u64 ((1 : Int) * ((2 : Int) ^ (min (Int.toNat (Go.IntKind.wrap Go.IntKind.u64 bit)) (64 : Nat)))))) (bitsOf Go.BinOp.or Go.IntKind.u64 x (Go.IntKind.wrap Go.IntKind.u64 ((1 : Int) * ((2 : Int) ^ (min (Int.toNat (Go.IntKind.wrap Go.IntKind.u64 bit)) (64 : Nat))))))) (bitsOf Go.BinOp.or Go.IntKind.u64 x (Go.IntKind.wrap Go.IntKind.u64 ((1 : Int) * ((2 : Int) ^ (min (Int.toNat (Go.IntKind.wrap Go.IntKind.u64 bit)) (64 : Nat))))))) + (mulHi (mulLo (bitsOf Go.BinOp.or Go.IntKind.u64 x (Go.IntKind.wrap Go.IntKind.u64 ((1 : Int) * ((2 : Int) ^ (min (Int.toNat (Go.IntKind.wrap Go.IntKind.u64 bit)) (64 : Nat)))))) (bitsOf Go.BinOp.or Go.IntKind.u64 x (Go.IntKind.wrap Go.IntKind.u64 ((1 : Int) * ((2 : Int) ^ (min (Int.toNat (Go.IntKind.wrap Go.IntKind.u64 bit)) (64 : Nat))))))) (bitsOf Go.BinOp.or Go.IntKind.u64 x (Go.IntKind.wrap Go.IntKind.u64 ((1 : Int) * ((2 : Int) ^ (min (Int.toNat (Go.IntKind.wrap Go.IntKind.u64 bit)) (64 : Nat))))))))) < (Go.IntKind.wrap Go.IntKind.u64 (p * ((2 : Int) ^ (min (32 : Nat) (64 : Nat))))))) = false))
 (h6 : (((Go.IntKind.wrap Go.IntKind.u64 ((mulLo (mulHi (bitsOf Go.BinOp.or Go.IntKind.u64 x (Go.IntKind.wrap Go.IntKind.u64 ((1 : Int) * ((2 : Int) ^ (min (Int.toNat (Go.IntKind.wrap Go.IntKind.u64 bit)) (64 : Nat)))))) (bitsOf Go.BinOp.or Go.IntKind.u64 x (Go.IntKind.wrap Go.IntKind.u64 ((1 : Int) * ((2 : Int) ^ (min (Int.toNat (Go.IntKind.wrap Go.IntKind.u64 bit)) (64 : Nat))))))) (bitsOf Go.BinOp.or Go.IntKind.u64 x (Go.IntKind.wrap Go.IntKind.u64 ((1 : Int) * ((2 : Int) ^ (min (Int.toNat (Go.IntKind.wrap Go.IntKind.u64 bit)) (64 : Nat))))))) + (mulHi (mulLo (bitsOf Go.BinOp.or Go.IntKind.u64 x (Go.IntKind.wrap Go.IntKind.u64 ((1 : Int) * ((2 : Int) ^ (min (Int.toNat (Go.IntKind.wrap Go.IntKind.u64 bit)) (64 : Nat)))))) (bitsOf Go.BinOp.or Go.IntKind.u64 x (Go.IntKind.wrap Go.IntKind.u64 ((1 : Int) * ((2 : Int) ^ (min (Int.toNat (Go.IntKind.wrap Go.IntKind.u64 bit)) (64 : Nat))))))) (bitsOf Go.BinOp.or Go.IntKind.u64 x (Go.IntKind.wrap Go.IntKind.u64 ((1 : Int) * ((2 : Int) ^ (min (Int.toNat (Go.IntKind.wrap Go.IntKind.u64 bit)) (64 : Nat))))))))) == (Go.IntKind.wrap Go.IntKind.u64 (p * ((2 : Int) ^ (min (32 : Nat) (64 : Nat)))))) = true))
 (h7 : (((mulLo (mulLo (bitsOf Go.BinOp.or Go.IntKind.u64 x (Go.IntKind.wrap Go.IntKind.u64 ((1 : Int) * ((2 : Int) ^ (min (Int.toNat (Go.IntKind.wrap Go.IntKind.u64 bit)) (64 : Nat)))))) (bitsOf Go.BinOp.or Go.IntKind.u64 x (Go.IntKind.wrap Go.IntKind.u64 ((1 : Int) * ((2 : Int) ^ (min (Int.toNat (Go.IntKind.wrap Go.IntKind.u64 bit)) (64 : Nat))))))) (bitsOf Go.BinOp.or Go.IntKind.u64 x (Go.IntKind.wrap Go.IntKind.u64 ((1 : Int) * ((2 : Int) ^ (min (Int.toNat (Go.IntKind.wrap Go.IntKind.u64 bit)) (64 : Nat))))))) == (0 : Int)) = false))
 (h8 : (InI64 (bit - (1 : Int))))
 (h9 : (x = x')) :
 ∃ ps, stepPs Tryd.prog DS gamQ 100 (bodyN Tryd.f36 0) 100 (cbSn p x bit).st [.is true, .is true, .is true, .is false, .is true, .is false] .normal (cbSn p x' (bit - 1)) = some ps ∧ AllQ ps := ⟨_, by kernel_rfl, qc h1 (qc h2 (qc h3 (qc h4 (qc h5 (qc h6 (qc h7 (qc h8 (qc (Eq.refl p) (qc h9 (qc (Eq.refl ((bit - (1 : Int)))) (qn)))))))))))⟩
theorem cb_c_gt (p x x' bit : Int)
 (h1 : ((decide (bit ≥ (0 : Int))) = true))
 (h2 : ((0 : Int) ≤ (Go.IntKind.wrap Go.IntKind.u64 bit)))
 (h3 : ((decide ((Go.IntKind.wrap Go.IntKind.u64 ((mulLo (mulHi (bitsOf Go.BinOp.or Go.IntKind.u64 x (Go.IntKind.wrap Go.IntKind.u64 ((1 : Int) * ((2 : Int) ^ (min (Int.toNat (Go.IntKind.wrap Go.IntKind.u64 bit)) (64 : Nat)))))) (bitsOf Go.BinOp.or Go.IntKind.u64 x (Go.IntKind.wrap Go.IntKind.u64 ((1 : Int) * ((2 : Int) ^ (min (Int.toNat (Go.IntKind.wrap Go.IntKind.u64 bit)) (64 : Nat))))))) (bitsOf Go.BinOp.or Go.IntKind.u64 x (Go.IntKind.wrap Go.IntKind.u64 ((1 : Int) * ((2 : Int) ^ (min (Int.toNat (Go.IntKind.wrap Go.IntKind.u64 bit)) (64 : Nat))))))) + (mulHi (mulLo (bitsOf Go.BinOp.or Go.IntKind.u64 x (Go.IntKind.wrap Go.IntKind.u64 ((1 : Int) * ((2 : Int) ^ (min (Int.toNat (Go.IntKind.wrap Go.IntKind.u64 bit)) (64 : Nat)))))) (bitsOf Go.BinOp.or Go.IntKind.u64 x (Go.IntKind.wrap Go.IntKind.u64 ((1 : Int) * ((2 : Int) ^ (min (Int.toNat (Go.IntKind.wrap Go.IntKind.u64 bit)) (64 : Nat))))))) (bitsOf Go.BinOp.or Go.IntKind.u64 x (Go.IntKind.wrap Go.IntKind.u64 ((1 : Int) * ((2 : Int) ^ (min (Int.toNat (Go.IntKind.wrap Go.IntKind.u64 bit)) (64 : Nat))))))))) < (mulLo (mulHi (bitsOf Go.BinOp.or Go.IntKind.u64 x (Go.IntKind.wrap Go.IntKind.u64 ((1 : Int) * ((2 : Int) ^ (min (Int.toNat (Go.IntKind.wrap Go.IntKind.u64 bit)) (64 : Nat)))))) (bitsOf Go.BinOp.or Go.IntKind.u64 x (Go.IntKind.wrap Go.IntKind.u64 ((1 : Int) * ((2 : Int) ^ (min (Int.toNat (Go.IntKind.wrap Go.IntKind.u64 bit)) (64 : Nat))))))) (bitsOf Go.BinOp.or Go.IntKind.u64 x (Go.IntKind.wrap Go.IntKind.u64 ((1 : Int) * ((2 : Int) ^ (min (Int.toNat (Go.IntKind.wrap Go.IntKind.u64 bit)) (64 : Nat))))))))) = true))
 (h4 : (((Go.IntKind.wrap Go.IntKind.u64 ((mulHi (mulHi (bitsOf Go.BinOp.or Go.IntKind.u64 x (Go.IntKind.wrap Go.IntKind.u64 ((1 : Int) * ((2 : Int) ^ (min (Int.toNat (Go.IntKind.wrap Go.IntKind.u64 bit)) (64 : Nat)))))) (bitsOf Go.BinOp.or Go.IntKind.u64 x (Go.IntKind.wrap Go.IntKind.u64 ((1 : Int) * ((2 : Int) ^ (min (Int.toNat (Go.IntKind.wrap Go.IntKind.u64 bit)) (64 : Nat))))))) (bitsOf Go.BinOp.or Go.IntKind.u64 x (Go.IntKind.wrap Go.IntKind.u64 ((1 : Int) * ((2 : Int) ^ (min (Int.toNat (Go.IntKind.wrap Go.IntKind.u64 bit)) (64 : Nat))))))) + (1 : Int))) == (0 : Int)) = true))
 (h5 : ((decide ((Go.IntKind.wrap Go.IntKind.u64 ((mulLo (mulHi (bitsOf Go.BinOp.or Go.IntKind.u64 x (Go.IntKind.wrap Go.IntKind.u64 ((1 : Int) * ((2 : Int) ^ (min (Int.toNat (Go.IntKind.wrap Go.IntKind.u64 bit)) (64 : Nat)))))) (bitsOf Go.BinOp.or Go.IntKind.u64 x (Go.IntKind.wrap Go.IntKind.u64 ((1 : Int) * ((2 : Int) ^ (min (Int.toNat (Go.IntKind.wrap Go.IntKind.u64 bit)) (64 : Nat))))))) (bitsOf Go.BinOp.or Go.IntKind.u64 x (Go.IntKind.wrap Go.IntKind.u64 ((1 : Int) * ((2 : Int) ^ (min (Int.toNat (Go.IntKind.wrap Go.IntKind.u64 bit)) (64 : Nat))))))) + (mulHi (mulLo (bitsOf Go.BinOp.or Go.IntKind.u64 x (Go.IntKind.wrap Go.IntKind.u64 ((1 : Int) * ((2 : Int) ^ (min (Int.toNat (Go.IntKind.wrap Go.IntKind.u64 bit)) (64 : Nat)))))) (bitsOf Go.BinOp.or Go.IntKind.u64 x (Go.IntKind.wrap Go.IntKind.u64 ((1 : Int) * ((2 : Int) ^ (min (Int.toNat (Go.IntKind.wrap Go.IntKind.u64 bit)) (64 : Nat))))))) (bitsOf Go.BinOp.or Go.IntKind.u64 x (Go.IntKind.wrap Go.IntKind.u64 ((1 : Int) * ((2 : Int) ^ (min (Int.toNat (Go.IntKind.wrap Go.IntKind.u64 bit)) (64 : Nat))))))))) < (Go.IntKind.wrap Go.IntKind.u64 (p * ((2 : Int) ^ (min (32 : Nat) (64 : Nat))))))) = false))
 (h6 : (((Go.IntKind.wrap Go.IntKind.u64 ((mulLo (mulHi (bitsOf Go.BinOp.or Go.IntKind.u64 x (Go.IntKind.wrap Go.IntKind.u64 ((1 : Int) * ((2 : Int) ^ (min (Int.toNat (Go.IntKind.wrap Go.IntKind.u64 bit)) (64 : Nat)))))) (bitsOf Go.BinOp.or Go.IntKind.u64 x (Go.IntKind.wrap Go.IntKind.u64 ((1 : Int) * ((2 : Int) ^ (min (Int.toNat (Go.IntKind.wrap Go.IntKind.u64 bit)) (64 : Nat))))))) (bitsOf Go.BinOp.or Go.IntKind.u64 x (Go.IntKind.wrap Go.IntKind.u64 ((1 : Int) * ((2 : Int) ^ (min (Int.toNat (Go.IntKind.wrap Go.IntKind.u64 bit)) (64 : Nat))))))) + (mulHi (mulLo (bitsOf Go.BinOp.or Go.IntKind.u64 x (Go.IntKind.wrap Go.IntKind.u64 ((1 : Int) * ((2 : Int) ^ (min (Int.toNat (Go.IntKind.wrap Go.IntKind.u64 bit)) (64 : Nat)))))) (bitsOf Go.BinOp.or Go.IntKind.u64 x (Go.IntKind.wrap Go.IntKind.u64 ((1 : Int) * ((2 : Int) ^ (min (Int.toNat (Go.IntKind.wrap Go.IntKind.u64 bit)) (64 : Nat))))))) (bitsOf Go.BinOp.or Go.IntKind.u64 x (Go.IntKind.wrap Go.IntKind.u64 ((1 : Int) * ((2 : Int) ^ (min (Int.toNat (Go.IntKind.wrap Go.IntKind.u64 bit)) (64 : Nat))))))))) == (Go.IntKind.wrap Go.IntKind.u64 (p * ((2 : Int) ^ (min (32 : Nat) (64 : Nat)))))) = false))
 (h7 : (InI64 (bit - (1 : Int))))
 (h8 : (x = x')) :
 ∃ ps, stepPs Tryd.prog DS gamQ 100 (bodyN Tryd.f36 0) 100 (cbSn p x bit).st [.is true, .is true, .is true, .is false, .is false] .normal (cbSn p x' (bit - 1)) = some ps ∧ AllQ ps := ⟨_, by kernel_rfl, qc h1 (qc h2 (qc h3 (qc h4 (qc h5 (qc h6 (qc h7 (qc (Eq.refl p) (qc h8 (qc (Eq.refl ((bit - (1 : Int)))) (qn))))))))))⟩
theorem cb_n_ne (p x x' bit : Int)
 (h1 : ((decide (bit ≥ (0 : Int))) = true))
 (h2 : ((0 : Int) ≤ (Go.IntKind.wrap Go.IntKind.u64 bit)))
 (h3 : ((decide ((Go.IntKind.wrap Go.IntKind.u64 ((mulLo (mulHi (bitsOf Go.BinOp.or Go.IntKind.u64 x (Go.IntKind.wrap Go.IntKind.u64 ((1 : Int) * ((2 : Int) ^ (min (Int.toNat (Go.IntKind.wrap Go.IntKind.u64 bit)) (64 : Nat)))))) (bitsOf Go.BinOp.or Go.IntKind.u64 x (Go.IntKind.wrap Go.IntKind.u64 ((1 : Int) * ((2 : Int) ^ (min (Int.toNat (Go.IntKind.wrap Go.IntKind.u64 bit)) (64 : Nat))))))) (bitsOf Go.BinOp.or Go.IntKind.u64 x (Go.IntKind.wrap Go.IntKind.u64 ((1 : Int) * ((2 : Int) ^ (min (Int.toNat (Go.IntKind.wrap Go.IntKind.u64 bit)) (64 : Nat))))))) + (mulHi (mulLo (bitsOf Go.BinOp.or Go.IntKind.u64 x (Go.IntKind.wrap Go.IntKind.u64 ((1 : Int) * ((2 : Int) ^ (min (Int.toNat (Go.IntKind.wrap Go.IntKind.u64 bit)) (64 : Nat)))))) (bitsOf Go.BinOp.or Go.IntKind.u64 x (Go.IntKind.wrap Go.IntKind.u64 ((1 : Int) * ((2 : Int) ^ (min (Int.toNat (Go.IntKind.wrap Go.IntKind.u64 bit)) (64 : Nat))))))) (bitsOf Go.BinOp.or Go.IntKind.u64 x (Go.IntKind.wrap Go.IntKind.u64 ((1 : Int) * ((2 : Int) ^ (min (Int.toNat (Go.IntKind.wrap Go.IntKind.u64 bit)) (64 : Nat))))))))) < (mulLo (mulHi (bitsOf Go.BinOp.or Go.IntKind.u64 x (Go.IntKind.wrap Go.IntKind.u64 ((1 : Int) * ((2 : Int) ^ (min (Int.toNat (Go.IntKind.wrap Go.IntKind.u64 bit)) (64 : Nat)))))) (bitsOf Go.BinOp.or Go.IntKind.u64 x (Go.IntKind.wrap Go.IntKind.u64 ((1 : Int) * ((2 : Int) ^ (min (Int.toNat (Go.IntKind.wrap Go.IntKind.u64 bit)) (64 : Nat))))))) (bitsOf Go.BinOp.or Go.IntKind.u64 x (Go.IntKind.wrap Go.IntKind.u64 ((1 : Int) * ((2 : Int) ^ (min (Int.toNat (Go.IntKind.wrap Go.IntKind.u64 bit)) (64 : Nat))))))))) = false))
 (h4 : (((mulHi (mulHi (bitsOf Go.BinOp.or Go.IntKind.u64 x (Go.IntKind.wrap Go.IntKind.u64 ((1 : Int) * ((2 : Int) ^ (min (Int.toNat (Go.IntKind.wrap Go.IntKind.u64 bit)) (64 : Nat)))))) (bitsOf Go.BinOp.or Go.IntKind.u64 x (Go.IntKind.wrap Go.IntKind.u64 ((1 : Int) * ((2 : Int) ^ (min (Int.toNat (Go.IntKind.wrap Go.IntKind.u64 bit)) (64 : Nat))))))) (bitsOf Go.BinOp.or Go.IntKind.u64 x (Go.IntKind.wrap Go.IntKind.u64 ((1 : Int) * ((2 : Int) ^ (min (Int.toNat (Go.IntKind.wrap Go.IntKind.u64 bit)) (64 : Nat))))))) == (0 : Int)) = false))
 (h5 : (InI64 (bit - (1 : Int))))
 (h6 : (x = x')) :
 ∃ ps, stepPs Tryd.prog DS gamQ 100 (bodyN Tryd.f36 0) 100 (cbSn p x bit).st [.is true, .is false, .is false] .normal (cbSn p x' (bit - 1)) = some ps ∧ AllQ ps := ⟨_, by kernel_rfl, qc h1 (qc h2 (qc h3 (qc h4 (qc h5 (qc (Eq.refl p) (qc h6 (qc (Eq.refl ((bit - (1 : Int)))) (qn))))))))⟩
theorem cb_n_lt (p x x' bit : Int)
 (h1 : ((decide (bit ≥ (0 : Int))) = true))
 (h2 : ((0 : Int) ≤ (Go.IntKind.wrap Go.IntKind.u64 bit)))
 (h3 : ((decide ((Go.IntKind.wrap Go.IntKind.u64 ((mulLo (mulHi (bitsOf Go.BinOp.or Go.IntKind.u64 x (Go.IntKind.wrap Go.IntKind.u64 ((1 : Int) * ((2 : Int) ^ (min (Int.toNat (Go.IntKind.wrap Go.IntKind.u64 bit)) (64 : Nat)))))) (bitsOf Go.BinOp.or Go.IntKind.u64 x (Go.IntKind.wrap Go.IntKind.u64 ((1 : Int) * ((2 : Int) ^ (min (Int.toNat (Go.IntKind.wrap Go.IntKind.u64 bit)) (64 : Nat))))))) (bitsOf Go.BinOp.or Go.IntKind.u64 x (Go.IntKind.wrap Go.IntKind.u64 ((1 : Int) * ((2 : Int) ^ (min (Int.toNat (Go.IntKind.wrap Go.IntKind.u64 bit)) (64 : Nat))))))) + (mulHi (mulLo (bitsOf Go.BinOp.or Go.IntKind.u64 x (Go.IntKind.wrap Go.IntKind.u64 ((1 : Int) * ((2 : Int) ^ (min (Int.toNat (Go.IntKind.wrap Go.IntKind.u64 bit)) (64 : Nat)))))) (bitsOf Go.BinOp.or Go.IntKind.u64 x (Go.IntKind.wrap Go.IntKind.u64 ((1 : Int) * ((2 : Int) ^ (min (Int.toNat (Go.IntKind.wrap Go.IntKind.u64 bit)) (64 : Nat))))))) (bitsOf Go.BinOp.or Go.IntKind.u64 x (Go.IntKind.wrap Go.IntKind.u64 ((1 : Int) * ((2 : Int) ^ (min (Int.toNat (Go.IntKind.wrap Go.IntKind.u64 bit)) (64 : Nat))))))))) < (mulLo (mulHi (bitsOf Go.BinOp.or Go.IntKind.u64 x (Go.IntKind.wrap Go.IntKind.u64 ((1 : Int) * ((2 : Int) ^ (min (Int.toNat (Go.IntKind.wrap Go.IntKind.u64 bit)) (64 : Nat)))))) (bitsOf Go.BinOp.or Go.IntKind.u64 x (Go.IntKind.wrap Go.IntKind.u64 ((1 : Int) * ((2 : Int) ^ (min (Int.toNat (Go.IntKind.wrap Go.IntKind.u64 bit)) (64 : Nat))))))) (bitsOf Go.BinOp.or Go.IntKind.u64 x (Go.IntKind.wrap Go.IntKind.u64 ((1 : Int) * ((2 : Int) ^ (min (Int.toNat (Go.IntKind.wrap Go.IntKind.u64 bit)) (64 : Nat))))))))) = false))
 (h4 : (((mulHi (mulHi (bitsOf Go.BinOp.or Go.IntKind.u64 x (Go.IntKind.wrap Go.IntKind.u64 ((1 : Int) * ((2 : Int) ^ (min (Int.toNat (Go.IntKind.wrap Go.IntKind.u64 bit)) (64 : Nat)))))) (bitsOf Go.BinOp.or Go.IntKind.u64 x (Go.IntKind.wrap Go.IntKind.u64 ((1 : Int) * ((2 : Int) ^ (min (Int.toNat (Go.IntKind.wrap Go.IntKind.u64 bit)) (64 : Nat))))))) (bitsOf Go.BinOp.or Go.IntKind.u64 x (Go.IntKind.wrap Go.IntKind.u64 ((1 : Int) * ((2 : Int) ^ (min (Int.toNat (Go.IntKind.wrap Go.IntKind.u64 bit)) (64 : Nat))))))) == (0 : Int)) = true))
 (h5 : ((decide ((Go.IntKind.wrap Go.IntKind.u64 ((mulLo (mulHi (bitsOf Go.BinOp.or Go.IntKind.u64 x (Go.IntKind.wrap Go.IntKind.u64 ((1 : Int) * ((2 : Int) ^ (min (Int.toNat (Go.IntKind.wrap Go.IntKind.u64 bit)) (64 : Nat)))))) (bitsOf Go.BinOp.or Go.IntKind.u64 x (Go.IntKind.wrap Go.IntKind.u64 ((1 : Int) * ((2 : Int) ^ (min (Int.toNat (Go.IntKind.wrap Go.IntKind.u64 bit)) (64 : Nat))))))) (bitsOf Go.BinOp.or Go.IntKind.u64 x (Go.IntKind.wrap Go.IntKind.u64 ((1 : Int) * ((2 : Int) ^ (min (Int.toNat (Go.IntKind.wrap Go.IntKind.u64 bit)) (64 : Nat))))))) + (mulHi (mulLo (bitsOf Go.BinOp.or Go.IntKind.u64 x (Go.IntKind.wrap Go.IntKind.u64 ((1 : Int) * ((2 : Int) ^ (min (Int.toNat (Go.IntKind.wrap Go.IntKind.u64 bit)) (64 : Nat)))))) (bitsOf Go.BinOp.or Go.IntKind.u64 x (Go.IntKind.wrap Go.IntKind.u64 ((1 : Int) * ((2 : Int) ^ (min (Int.toNat (Go.IntKind.wrap Go.IntKind.u64 bit)) (64 : Nat))))))) (bitsOf Go.BinOp.or Go.IntKind.u64 x (Go.IntKind.wrap Go.IntKind.u64 ((1 : Int) * ((2 : Int) ^ (min (Int.toNat (Go.IntKind.wrap Go.IntKind.u64 bit)) (64 : Nat))))))))) < (Go.IntKind.wrap Go.IntKind.u64 (p * ((2 : Int) ^ (min (32 : Nat) (64 : Nat))))))) = true))
 (h6 : (InI64 (bit - (1 : Int))))
 (h7 : ((bitsOf Go.BinOp.or Go.IntKind.u64 x (Go.IntKind.wrap Go.IntKind.u64 ((1 : Int) * ((2 : Int) ^ (min (Int.toNat (Go.IntKind.wrap Go.IntKind.u64 bit)) (64 : Nat)))))) = x')) :
 ∃ ps, stepPs Tryd.prog DS gamQ 100 (bodyN Tryd.f36 0) 100 (cbSn p x bit).st [.is true, .is false, .is true, .is true] .normal (cbSn p x' (bit - 1)) = some ps ∧ AllQ ps := ⟨_, by kernel_rfl, qc h1 (qc h2 (qc h3 (qc h4 (qc h5 (qc h6 (qc (Eq.refl p) (qc h7 (qc (Eq.refl ((bit - (1 : Int)))) (qn)))))))))⟩
theorem cb_n_eq0 (p x x' bit : Int)
 (h1 : ((decide (bit ≥ (0 : Int))) = true))
 (h2 : ((0 : Int) ≤ (Go.IntKind.wrap Go.IntKind.u64 bit)))
 (h3 : ((decide ((Go.IntKind.wrap Go.IntKind.u64 ((mulLo (mulHi (bitsOf Go.BinOp.or Go.IntKind.u64 x (Go.IntKind.wrap Go.IntKind.u64 ((1 : Int) * ((2 : Int) ^ (min (Int.toNat (Go.IntKind.wrap Go.IntKind.u64 bit)) (64 : Nat)))))) (bitsOf Go.BinOp.or Go.IntKind.u64 x (Go.IntKind.wrap Go.IntKind.u64 ((1 : Int) * ((2 : Int) ^ (min (Int.toNat (Go.IntKind.wrap Go.IntKind.u64 bit)) (64 : Nat))))))) (bitsOf Go.BinOp.or Go.IntKind.u64 x (Go.IntKind.wrap Go.IntKind.u64 ((1 : Int) * ((2 : Int) ^ (min (Int.toNat (Go.IntKind.wrap Go.IntKind.u64 bit)) (64 : Nat))))))) + (mulHi (mulLo (bitsOf Go.BinOp.or Go.IntKind.u64 x (Go.IntKind.wrap Go.IntKind.u64 ((1 : Int) * ((2 : Int) ^ (min (Int.toNat (Go.IntKind.wrap Go.IntKind.u64 bit)) (64 : Nat)))))) (bitsOf Go.BinOp.or Go.IntKind.u64 x (Go.IntKind.wrap Go.IntKind.u64 ((1 : Int) * ((2 : Int) ^ (min (Int.toNat (Go.IntKind.wrap Go.IntKind.u64 bit)) (64 : Nat))))))) (bitsOf Go.BinOp.or Go.IntKind.u64 x (Go.IntKind.wrap Go.IntKind.u64 ((1 : Int) * ((2 : Int) ^ (min (Int.toNat (Go.IntKind.wrap Go.IntKind.u64 bit)) (64 : Nat))))))))) < (mulLo (mulHi (bitsOf Go.BinOp.or Go.IntKind.u64 x (Go.IntKind.wrap Go.IntKind.u64 ((1 : Int) * ((2 : Int) ^ (min (Int.toNat (Go.IntKind.wrap Go.IntKind.u64 bit)) (64 : Nat)))))) (bitsOf Go.BinOp.or Go.IntKind.u64 x (Go.IntKind.wrap Go.IntKind.u64 ((1 : Int) * ((2 : Int) ^ (min (Int.toNat (Go.IntKind.wrap Go.IntKind.u64 bit)) (64 : Nat))))))) (bitsOf Go.BinOp.or Go.IntKind.u64 x (Go.IntKind.wrap Go.IntKind.u64 ((1 : Int) * ((2 : Int) ^ (min (Int.toNat (Go.IntKind.wrap Go.IntKind.u64 bit)) (64 : Nat))))))))) = false))
 (h4 : (((mulHi (mulHi (bitsOf Go.BinOp.or Go.IntKind.u64 x (Go.IntKind.wrap Go.IntKind.u64 ((1 : Int) * ((2 : Int) ^ (min (Int.toNat (Go.IntKind.wrap Go.IntKind.u64 bit)) (64 : Nat)))))) (bitsOf Go.BinOp.or Go.IntKind.u64 x (Go.IntKind.wrap Go.IntKind.u64 ((1 : Int) * ((2 : Int) ^ (min (Int.toNat (Go.IntKind.wrap Go.IntKind.u64 bit)) (64 : Nat))))))) (bitsOf Go.BinOp.or Go.IntKind.u64 x (Go.IntKind.wrap Go.IntKind.u64 ((1 : Int) * ((2 : Int) ^ (min (Int.toNat (Go.IntKind.wrap Go.IntKind.u64 bit)) (64 : Nat))))))) == (0 : Int)) = true))
 (h5 : ((decide ((Go.IntKind.wrap Go.IntKind.u64 ((mulLo (mulHi (bitsOf Go.BinOp.or Go.IntKind.u64 x (Go.IntKind.wrap Go.IntKind.u64 ((1 : Int) * ((2 : Int) ^ (min (Int.toNat (Go.IntKind.wrap Go.IntKind.u64 bit)) (64 : Nat)))))) (bitsOf Go.BinOp.or Go.IntKind.u64 x (Go.IntKind.wrap Go.IntKind.u64 ((1 : Int) * ((2 : Int) ^ (min (Int.toNat (Go.IntKind.wrap Go.IntKind.u64 bit)) (64 : Nat))))))) (bitsOf Go.BinOp.or Go.IntKind.u64 x (Go.IntKind.wrap Go.IntKind.u64 ((1 : Int) * ((2 : Int) ^ (min (Int.toNat (Go.IntKind.wrap Go.IntKind.u64 bit)) (64 : Nat))))))) + (mulHi (mulLo (bitsOf Go.BinOp.or Go.IntKind.u64 x (Go.IntKind.wrap Go.IntKind.u64 ((1 : Int) * ((2 : Int) ^ (min (Int.toNat (Go.IntKind.wrap Go.IntKind.u64 bit)) (64 : Nat)))))) (bitsOf Go.BinOp.or Go.IntKind.u64 x (Go.IntKind.wrap Go.IntKind.u64 ((1 : Int) * ((2 : Int) ^ (min (Int.toNat (Go.IntKind.wrap Go.IntKind.u64 bit)) (64 : Nat))))))) (bitsOf Go.BinOp.or Go.IntKind.u64 x (Go.IntKind.wrap Go.IntKind.u64 ((1 : Int) * ((2 : Int) ^ (min (Int.toNat (Go.IntKind.wrap Go.IntKind.u64 bit)) (64 : Nat))))))))) < (Go.IntKind.wrap Go.IntKind.u64 (p * ((2 : Int) ^ (min (32 : Nat) (64 : Nat))))))) = false))
 (h6 : (((Go.IntKind.wrap Go.IntKind.u64 ((mulLo (mulHi (bitsOf Go.BinOp.or Go.IntKind.u64 x (Go.IntKind.wrap Go.IntKind.u64 ((1 : Int) * ((2 : Int) ^ (min (Int.toNat (Go.IntKind.wrap Go.IntKind.u64 bit)) (64 : Nat)))))) (bitsOf Go.BinOp.or Go.IntKind.u64 x (Go.IntKind.wrap Go.IntKind.u64 ((1 : Int) * ((2 : Int) ^ (min (Int.toNat (Go.IntKind.wrap Go.IntKind.u64 bit)) (64 : Nat))))))) (bitsOf Go.BinOp.or Go.IntKind.u64 x (Go.IntKind.wrap Go.IntKind.u64 ((1 : Int) * ((2 : Int) ^ (min (Int.toNat (Go.IntKind.wrap Go.IntKind.u64 bit)) (64 : Nat))))))) + (mulHi (mulLo (bitsOf Go.BinOp.or Go.IntKind.u64 x (Go.IntKind.wrap Go.IntKind.u64 ((1 : Int) * ((2 : Int) ^ (min (Int.toNat (Go.IntKind.wrap Go.IntKind.u64 bit)) (64 : Nat)))))) (bitsOf Go.BinOp.or Go.IntKind.u64 x (Go.IntKind.wrap Go.IntKind.u64 ((1 : Int) * ((2 : Int) ^ (min (Int.toNat (Go.IntKind.wrap Go.IntKind.u64 bit)) (64 : Nat))))))) (bitsOf Go.BinOp.or Go.IntKind.u64 x (Go.IntKind.wrap Go.IntKind.u64 ((1 : Int) * ((2 : Int) ^ (min (Int.toNat (Go.IntKind.wrap Go.IntKind.u64 bit)) (64 : Nat))))))))) == (Go.IntKind.wrap Go.IntKind.u64 (p * ((2 : Int) ^ (min (32 : Nat) (64 : Nat)))))) = true))
 (h7 : (((mulLo (mulLo (bitsOf Go.BinOp.or Go.IntKind.u64 x (Go.IntKind.wrap Go.IntKind.u64 ((1 : Int) * ((2 : Int) ^ (min (Int.toNat (Go.IntKind.wrap Go.IntKind.u64 bit)) (64 : Nat)))))) (bitsOf Go.BinOp.or Go.IntKind.u64 x (Go.IntKind.wrap Go.IntKind.u64 ((1 : Int) * ((2 : Int) ^ (min (Int.toNat (Go.IntKind.wrap Go.IntKind.u64 bit)) (64 : Nat))))))) (bitsOf Go.BinOp.or Go.IntKind.u64 x (Go.IntKind.wrap Go.IntKind.u64 ((1 : Int) * ((2 : Int) ^ (min (Int.toNat (Go.IntKind.wrap Go.IntKind.u64 bit)) (64 : Nat))))))) == (0 : Int)) = true))
 (h8 : (InI64 (bit - (1 : Int))))
 (h9 : ((bitsOf Go.BinOp.or Go.IntKind.u64 x (Go.IntKind.wrap Go.IntKind.u64 ((1 : Int) * ((2 : Int) ^ (min (Int.toNat (Go.IntKind.wrap Go.IntKind.u64 bit)) (64 : Nat)))))) = x')) :
 ∃ ps, stepPs Tryd.prog DS gamQ 100 (bodyN Tryd.f36 0) 100 (cbSn p x bit).st [.is true, .is false, .is true, .is false, .is true, .is true] .normal (cbSn p x' (bit - 1)) = some ps ∧ AllQ ps := ⟨_, by kernel_rfl, qc h1 (qc h2 (qc h3 (qc h4 (qc h5 (qc h6 (qc h7 (qc h8 (qc (Eq.refl p) (qc h9 (qc (Eq.refl ((bit - (1 : Int)))) (qn)))))))))))⟩
theorem cb_n_eq1 (p x x' bit : Int)
 (h1 : ((decide (bit ≥ (0 : Int))) = true))
 (h2 : ((0 : Int) ≤ (Go.IntKind.wrap Go.IntKind.u64 bit)))
 (h3 : ((decide ((Go.IntKind.wrap Go.IntKind.u64 ((mulLo (mulHi (bitsOf Go.BinOp.or Go.IntKind.u64 x (Go.IntKind.wrap Go.IntKind.u64 ((1 : Int) * ((2 : Int) ^ (min (Int.toNat (Go.IntKind.wrap Go.IntKind.u64 bit)) (64 : Nat)))))) (bitsOf Go.BinOp.or Go.IntKind.u64 x (Go.IntKind.wrap Go.IntKind.u64 ((1 : Int) * ((2 : Int) ^ (min (Int.toNat (Go.IntKind.wrap Go.IntKind.u64 bit)) (64 : Nat))))))) (bitsOf Go.BinOp.or Go.IntKind.u64 x (Go.IntKind.wrap Go.IntKind.u64 ((1 : Int) * ((2 : Int) ^ (min (Int.toNat (Go.IntKind.wrap Go.IntKind.u64 bit)) (64 : Nat))))))) + (mulHi (mulLo (bitsOf Go.BinOp.or Go.IntKind.u64 x (Go.IntKind.wrap Go.IntKind.u64 ((1 : Int) * ((2 : Int) ^ (min (Int.toNat (Go.IntKind.wrap Go.IntKind.u64 bit)) (64 : Nat)))))) (bitsOf Go.BinOp.or Go.IntKind.u64 x (Go.IntKind.wrap Go.IntKind.u64 ((1 : Int) * ((2 : Int) ^ (min (Int.toNat (Go.IntKind.wrap Go.IntKind.u64 bit)) (64 : Nat))))))) (bitsOf Go.BinOp.or Go.IntKind.u64 x (Go.IntKind.wrap Go.IntKind.u64 ((1 : Int) * ((2 : Int) ^ (min (Int.toNat (Go.IntKind.wrap Go.IntKind.u64 bit)) (64 : Nat))))))))) < (mulLo (mulHi (bitsOf Go.BinOp.or Go.IntKind.u64 x (Go.IntKind.wrap Go.IntKind.u64 ((1 : Int) * ((2 : Int) ^ (min (Int.toNat (Go.IntKind.wrap Go.IntKind.u64 bit)) (64 : Nat)))))) (bitsOf Go.BinOp.or Go.IntKind.u64 x (Go.IntKind.wrap Go.IntKind.u64 ((1 : Int) * ((2 : Int) ^ (min (Int.toNat (Go.IntKind.wrap Go.IntKind.u64 bit)) (64 : Nat))))))) (bitsOf Go.BinOp.or Go.IntKind.u64 x (Go.IntKind.wrap Go.IntKind.u64 ((1 : Int) * ((2 : Int) ^ (min (Int.toNat (Go.IntKind.wrap Go.IntKind.u64 bit)) (64 : Nat))))))))) = false))
 (h4 : (((mulHi (mulHi (bitsOf Go.BinOp.or Go.IntKind.u64 x (Go.IntKind.wrap Go.IntKind.u64 ((1 : Int) * ((2 : Int) ^ (min (Int.toNat (Go.IntKind.wrap Go.IntKind.u64 bit)) (64 : Nat)))))) (bitsOf Go.BinOp.or Go.IntKind.u64 x (Go.IntKind.wrap Go.IntKind.u64 ((1 : Int) * ((2 : Int) ^ (min (Int.toNat (Go.IntKind.wrap Go.IntKind.u64 bit)) (64 : Nat))))))) (bitsOf Go.BinOp.or Go.IntKind.u64 x (Go.IntKind.wrap Go.IntKind.u64 ((1 : Int) * ((2 : Int) ^ (min (Int.toNat (Go.IntKind.wrap Go.IntKind.u64 bit)) (64 : Nat))))))) == (0 : Int)) = true))
 (h5 : ((decide ((Go.IntKind.wrap Go.IntKind.u64 ((mulLo (mulHi (bitsOf Go.BinOp.or Go.IntKind.u64 x (Go.IntKind.wrap Go.IntKind.u64 ((1 : Int) * ((2 : Int) ^ (min (Int.toNat (Go.IntKind.wrap Go.IntKind.u64 bit)) (64 : Nat)))))) (bitsOf Go.BinOp.or Go.IntKind.u64 x (Go.IntKind.wrap Go.IntKind.u64 ((1 : Int) * ((2 : Int) ^ (min (Int.toNat (Go.IntKind.wrap Go.IntKind.u64 bit)) (64 : Nat))))))) (bitsOf Go.BinOp.or Go.IntKind.u64 x (Go.IntKind.wrap Go.IntKind.u64 ((1 : Int) * ((2 : Int) ^ (min (Int.toNat (Go.IntKind.wrap Go.IntKind.u64 bit)) (64 : Nat))))))) + (mulHi (mulLo (bitsOf Go.BinOp.or Go.IntKind.u64 x (Go.IntKind.wrap Go.IntKind.u64 ((1 : Int) * ((2 : Int) ^ (min (Int.toNat (Go.IntKind.wrap Go.IntKind.u64 bit)) (64 : Nat)))))) (bitsOf Go.BinOp.or Go.IntKind.u64 x (Go.IntKind.wrap Go.IntKind.u64 ((1 : Int) * ((2 : Int) ^ (min (Int.toNat (Go.IntKind.wrap Go.IntKind.u64 bit)) (64 : Nat))))))) (bitsOf Go.BinOp.or Go.IntKind.u64 x (Go.IntKind.wrap Go.IntKind.u64 ((1 : Int) * ((2 : Int) ^ (min (Int.toNat (Go.IntKind.wrap Go.IntKind.u64 bit)) (64 : Nat))))))))) < (Go.IntKind.wrap Go.IntKind.u64 (p * ((2 : Int) ^ (min (32 : Nat) (64 : Nat))))))) = false))
 (h6 : (((Go.IntKind.wrap Go.IntKind.u64 ((mulLo (mulHi (bitsOf Go.BinOp.or Go.IntKind.u64 x (Go.IntKind.wrap Go.IntKind.u64 ((1 : Int) * ((2 : Int) ^ (min (Int.toNat (Go.IntKind.wrap Go.IntKind.u64 bit)) (64 : Nat)))))) (bitsOf Go.BinOp.or Go.IntKind.u64 x (Go.IntKind.wrap Go.IntKind.u64 ((1 : Int) * ((2 : Int) ^ (min (Int.toNat (Go.IntKind.wrap Go.IntKind.u64 bit)) (64 : Nat))))))) (bitsOf Go.BinOp.or Go.IntKind.u64 x (Go.IntKind.wrap Go.IntKind.u64 ((1 : Int) * ((2 : Int) ^ (min (Int.toNat (Go.IntKind.wrap Go.IntKind.u64 bit)) (64 : Nat))))))) + (mulHi (mulLo (bitsOf Go.BinOp.or Go.IntKind.u64 x (Go.IntKind.wrap Go.IntKind.u64 ((1 : Int) * ((2 : Int) ^ (min (Int.toNat (Go.IntKind.wrap Go.IntKind.u64 bit)) (64 : Nat)))))) (bitsOf Go.BinOp.or Go.IntKind.u64 x (Go.IntKind.wrap Go.IntKind.u64 ((1 : Int) * ((2 : Int) ^ (min (Int.toNat (Go.IntKind.wrap Go.IntKind.u64 bit)) (64 : Nat))))))) (bitsOf Go.BinOp.or Go.IntKind.u64 x (Go.IntKind.wrap Go.IntKind.u64 ((1 : Int) * ((2 : Int) ^ (min (Int.toNat (Go.IntKind.wrap Go.IntKind.u64 bit)) (64 : Nat))))))))) == (Go.IntKind.wrap Go.IntKind.u64 (p * ((2 : Int) ^ (min (32 : Nat) (64 : Nat)))))) = true))
 (h7 : (((mulLo (mulLo (bitsOf Go.BinOp.or Go.IntKind.u64 x (Go.IntKind.wrap Go.IntKind.u64 ((1 : Int) * ((2 : Int) ^ (min (Int.toNat (Go.IntKind.wrap Go.IntKind.u64 bit)) (64 : Nat)))))) (bitsOf Go.BinOp.or Go.IntKind.u64 x (Go.IntKind.wrap Go.IntKind.u64 ((1 : Int) * ((2 : Int) ^ (min (Int.toNat (Go.IntKind.wrap Go.IntKind.u64 bit)) (64 : Nat))))))) (bitsOf Go.BinOp.or Go.IntKind.u64 x (Go.IntKind.wrap Go.IntKind.u64 ((1 : Int) * ((2 : Int) ^ (min (Int.toNat (Go.IntKind.wrap Go.IntKind.u64 bit)) (64 : Nat))))))) == (0 : Int)) = false))
 (h8 : (InI64 (bit - (1 : Int))))
 (h9 : (x = x')) :
 ∃ ps, stepPs Tryd.prog DS gamQ 100 (bodyN Tryd.f36 0) 100 (cbSn p x bit).st [.is true, .is false, .is true, .is false, .is true, .is false] .normal (cbSn p x' (bit - 1)) = some ps ∧ AllQ ps := ⟨_, by kernel_rfl, qc h1 (qc h2 (qc h3 (qc h4 (qc h5 (qc h6 (qc h7 (qc h8 (qc (Eq.refl p) (qc h9 (qc (Eq.refl ((bit - (1 : Int)))) (qn)))))))))))⟩
theorem cb_n_gt (p x x' bit : Int)
 (h1 : ((decide (bit ≥ (0 : Int))) = true))
 (h2 : ((0 : Int) ≤ (Go.IntKind.wrap Go.IntKind.u64 bit)))
 (h3 : ((decide ((Go.IntKind.wrap Go.IntKind.u64 ((mulLo (mulHi (bitsOf Go.BinOp.or Go.IntKind.u64 x (Go.IntKind.wrap Go.IntKind.u64 ((1 : Int) * ((2 : Int) ^ (min (Int.toNat (Go.IntKind.wrap Go.IntKind.u64 bit)) (64 : Nat)))))) (bitsOf Go.BinOp.or Go.IntKind.u64 x (Go.IntKind.wrap Go.IntKind.u64 ((1 : Int) * ((2 : Int) ^ (min (Int.toNat (Go.IntKind.wrap Go.IntKind.u64 bit)) (64 : Nat))))))) (bitsOf Go.BinOp.or Go.IntKind.u64 x (Go.IntKind.wrap Go.IntKind.u64 ((1 : Int) * ((2 : Int) ^ (min (Int.toNat (Go.IntKind.wrap Go.IntKind.u64 bit)) (64 : Nat))))))) + (mulHi (mulLo (bitsOf Go.BinOp.or Go.IntKind.u64 x (Go.IntKind.wrap Go.IntKind.u64 ((1 : Int) * ((2 : Int) ^ (min (Int.toNat (Go.IntKind.wrap Go.IntKind.u64 bit)) (64 : Nat)))))) (bitsOf Go.BinOp.or Go.IntKind.u64 x (Go.IntKind.wrap Go.IntKind.u64 ((1 : Int) * ((2 : Int) ^ (min (Int.toNat (Go.IntKind.wrap Go.IntKind.u64 bit)) (64 : Nat))))))) (bitsOf Go.BinOp.or Go.IntKind.u64 x (Go.IntKind.wrap Go.IntKind.u64 ((1 : Int) * ((2 : Int) ^ (min (Int.toNat (Go.IntKind.wrap Go.IntKind.u64 bit)) (64 : Nat))))))))) < (mulLo (mulHi (bitsOf Go.BinOp.or Go.IntKind.u64 x (Go.IntKind.wrap Go.IntKind.u64 ((1 : Int) * ((2 : Int) ^ (min (Int.toNat (Go.IntKind.wrap Go.IntKind.u64 bit)) (64 : Nat)))))) (bitsOf Go.BinOp.or Go.IntKind.u64 x (Go.IntKind.wrap Go.IntKind.u64 ((1 : Int) * ((2 : Int) ^ (min (Int.toNat (Go.IntKind.wrap Go.IntKind.u64 bit)) (64 : Nat))))))) (bitsOf Go.BinOp.or Go.IntKind.u64 x (Go.IntKind.wrap Go.IntKind.u64 ((1 : Int) * ((2 : Int) ^ (min (Int.toNat (Go.IntKind.wrap Go.IntKind.u64 bit)) (64 : Nat))))))))) = false))
 (h4 : (((mulHi (mulHi (bitsOf Go.BinOp.or Go.IntKind.u64 x (Go.IntKind.wrap Go.IntKind.u64 ((1 : Int) * ((2 : Int) ^ (min (Int.toNat (Go.IntKind.wrap Go.IntKind.u64 bit)) (64 : Nat)))))) (bitsOf Go.BinOp.or Go.IntKind.u64 x (Go.IntKind.wrap Go.IntKind.u64 ((1 : Int) * ((2 : Int) ^ (min (Int.toNat (Go.IntKind.wrap Go.IntKind.u64 bit)) (64 : Nat))))))) (bitsOf Go.BinOp.or Go.IntKind.u64 x (Go.IntKind.wrap Go.IntKind.u64 ((1 : Int) * ((2 : Int) ^ (min (Int.toNat (Go.IntKind.wrap Go.IntKind.u64 bit)) (64 : Nat))))))) == (0 : Int)) = true))
 (h5 : ((decide ((Go.IntKind.wrap Go.IntKind.u64 ((mulLo (mulHi (bitsOf Go.BinOp.or Go.IntKind.u64 x (Go.IntKind.wrap Go.IntKind.u64 ((1 : Int) * ((2 : Int) ^ (min (Int.toNat (Go.IntKind.wrap Go.IntKind.u64 bit)) (64 : Nat)))))) (bitsOf Go.BinOp.or Go.IntKind.u64 x (Go.IntKind.wrap Go.IntKind.u64 ((1 : Int) * ((2 : Int) ^ (min (Int.toNat (Go.IntKind.wrap Go.IntKind.u64 bit)) (64 : Nat))))))) (bitsOf Go.BinOp.or Go.IntKind.u64 x (Go.IntKind.wrap Go.IntKind.u64 ((1 : Int) * ((2 : Int) ^ (min (Int.toNat (Go.IntKind.wrap Go.IntKind.u64 bit)) (64 : Nat))))))) + (mulHi (mulLo (bitsOf Go.BinOp.or Go.IntKind.u64 x (Go.IntKind.wrap Go.IntKind.u64 ((1 : Int) * ((2 : Int) ^ (min (Int.toNat (Go.IntKind.wrap Go.IntKind.u64 bit)) (64 : Nat)))))) (bitsOf Go.BinOp.or Go.IntKind.u64 x (Go.IntKind.wrap Go.IntKind.u64 ((1 : Int) * ((2 : Int) ^ (min (Int.toNat (Go.IntKind.wrap Go.IntKind.u64 bit)) (64 : Nat))))))) (bitsOf Go.BinOp.or Go.IntKind.u64 x (Go.IntKind.wrap Go.IntKind.u64 ((1 : Int) * ((2 : Int) ^ (min (Int.toNat (Go.IntKind.wrap Go.IntKind.u64 bit)) (64 : Nat))))))))) < (Go.IntKind.wrap Go.IntKind.u64 (p * ((2 : Int) ^ (min (32 : Nat) (64 : Nat))))))) = false))
 (h6 : (((Go.IntKind.wrap Go.IntKind.u64 ((mulLo (mulHi (bitsOf Go.BinOp.or Go.IntKind.u64 x (Go.IntKind.wrap Go.IntKind.u64 ((1 : Int) * ((2 : Int) ^ (min (Int.toNat (Go.IntKind.wrap Go.IntKind.u64 bit)) (64 : Nat)))))) (bitsOf Go.BinOp.or Go.IntKind.u64 x (Go.IntKind.wrap Go.IntKind.u64 ((1 : Int) * ((2 : Int) ^ (min (Int.toNat (Go.IntKind.wrap Go.IntKind.u64 bit)) (64 : Nat))))))) (bitsOf Go.BinOp.or Go.IntKind.u64 x (Go.IntKind.wrap Go.IntKind.u64 ((1 : Int) * ((2 : Int) ^ (min (Int.toNat (Go.IntKind.wrap Go.IntKind.u64 bit)) (64 : Nat))))))) + (mulHi (mulLo (bitsOf Go.BinOp.or Go.IntKind.u64 x (Go.IntKind.wrap Go.IntKind.u64 ((1 : Int) * ((2 : Int) ^ (min (Int.toNat (Go.IntKind.wrap Go.IntKind.u64 bit)) (64 : Nat)))))) (bitsOf Go.BinOp.or Go.IntKind.u64 x (Go.IntKind.wrap Go.IntKind.u64 ((1 : Int) * ((2 : Int) ^ (min (Int.toNat (Go.IntKind.wrap Go.IntKind.u64 bit)) (64 : Nat))))))) (bitsOf Go.BinOp.or Go.IntKind.u64 x (Go.IntKind.wrap Go.IntKind.u64 ((1 : Int) * ((2 : Int) ^ (min (Int.toNat (Go.IntKind.wrap Go.IntKind.u64 bit)) (64 : Nat))))))))) == (Go.IntKind.wrap Go.IntKind.u64 (p * ((2 : Int) ^ (min (32 : Nat) (64 : Nat)))))) = false))
 (h7 : (InI64 (bit - (1 : Int))))
 (h8 : (x = x')) :
 ∃ ps, stepPs Tryd.prog DS gamQ 100 (bodyN Tryd.f36 0) 100 (cbSn p x bit).st [.is true, .is false, .is true, .is false, .is false] .normal (cbSn p x' (bit - 1)) = some ps ∧ AllQ ps := ⟨_, by kernel_rfl, qc h1 (qc h2 (qc h3 (qc h4 (qc h5 (qc h6 (qc h7 (qc (Eq.refl p) (qc h8 (qc (Eq.refl ((bit - (1 : Int)))) (qn))))))))))⟩
theorem cb_exit (p x bit : Int)
 (h1 : ((decide (bit ≥ (0 : Int))) = false)) :
 ∃ ps, stepPs Tryd.prog DS gamQ 100 (bodyN Tryd.f36 0) 100 (cbSn p x bit).st [.is false] (.exit 0) (cbSn p x bit) = some ps ∧ AllQ ps := ⟨_, by kernel_rfl, qc h1 (qc (Eq.refl p) (qc (Eq.refl x) (qc (Eq.refl bit) (qn))))⟩
theorem cb_run (p x bit : Int)
 (h1 : SumOK Tryd.prog DS (bodyN Tryd.f36 0) (loopL DS (cbSn p 0 36) (.exit 0) (cbSn p x bit))) :
 ∃ ps, runF Tryd.prog DS gamQ 100 Tryd.f36 [.one (.int .u64 false p)] [.loop (loopL DS (cbSn p 0 36) (.exit 0) (cbSn p x bit))] = some ((AV.v (A0.one (Part.int Go.IntKind.u32 false (Go.IntKind.wrap Go.IntKind.u32 x)))), ps) ∧ AllQ ps := ⟨_, by kernel_rfl, qc h1 (qc (Eq.refl p) (qc (Eq.refl ((0 : Int))) (qc (Eq.refl ((36 : Int))) (qn))))⟩
def prSn (n x : Int) (out : List Int) : Sn DS.τ where
  slots := [(0, .v (.one (.int .i64 false n))), (3, .v (.one (.own 0))), (4, .v (.one (.int .u64 false x)))]
  boxes := [(0, .dyn 70 (.ints .u64 out))]
  nt := 33
def pr1Sn (n x : Int) (out : List Int) (b : Bool) (i : Int) : Sn DS.τ where
  slots := [(0, .v (.one (.int .i64 false n))), (3, .v (.one (.own 0))), (4, .v (.one (.int .u64 false x))), (5, .v (.one (.bool false b))), (15, .v (.one (.int .i64 false out.length))), (16, .v (.one (.int .i64 false i)))]
  boxes := [(0, .dyn 70 (.ints .u64 out))]
  nt := 33
def pr2Sn (n x : Int) (out : List Int) (b : Bool) : Sn DS.τ where
  slots := [(0, .v (.one (.int .i64 false n))), (3, .v (.one (.own 0))), (4, .v (.one (.int .u64 false x))), (5, .v (.one (.bool false b)))]
  boxes := [(0, .dyn 70 (.ints .u64 out))]
  nt := 33
theorem pr_in (n x : Int) (out : List Int) (b b' : Bool) (i : Nat)
 (h1 : ((decide (((i : Nat) : Int) < (((List.length out) : Nat) : Int))) = true))
 (h2 : ((0 : Int) ≤ ((i : Nat) : Int)))
 (h3 : (((i : Nat) : Int) < (((List.length out) : Nat) : Int)))
 (h4 : ((Int.toNat ((i : Nat) : Int)) < (List.length out)))
 (h5 : ((List.getD out (Int.toNat ((i : Nat) : Int)) (0 : Int)) ≠ (0 : Int)))
 (h6 : (((Int.tmod x (List.getD out (Int.toNat ((i : Nat) : Int)) (0 : Int))) == (0 : Int)) = true))
 (h7 : (InI64 (((i : Nat) : Int) + (1 : Int))))
 (h8 : (false = b')) :
 ∃ ps, stepPs Tryd.prog DS [] 100 (bodyN Tryd.f35 1) 100 (pr1Sn n x out b i).st [.is true, .is true] .normal (pr1Sn n x out b' ((i : Int) + 1)) = some ps ∧ AllQ ps := ⟨_, by kernel_rfl, qc h1 (qc h2 (qc h3 (qc h4 (qc h5 (qc h6 (qc h7 (qc (Eq.refl n) (qc (Eq.refl x) (qc h8 (qc (Eq.refl ((((List.length out) : Nat) : Int))) (qc (Eq.refl ((((i : Nat) : Int) + (1 : Int)))) (qc (Eq.refl out) (qn)))))))))))))⟩
theorem pr_no (n x : Int) (out : List Int) (b b' : Bool) (i : Nat)
 (h1 : ((decide (((i : Nat) : Int) < (((List.length out) : Nat) : Int))) = true))
 (h2 : ((0 : Int) ≤ ((i : Nat) : Int)))
 (h3 : (((i : Nat) : Int) < (((List.length out) : Nat) : Int)))
 (h4 : ((Int.toNat ((i : Nat) : Int)) < (List.length out)))
 (h5 : ((List.getD out (Int.toNat ((i : Nat) : Int)) (0 : Int)) ≠ (0 : Int)))
 (h6 : (((Int.tmod x (List.getD out (Int.toNat ((i : Nat) : Int)) (0 : Int))) == (0 : Int)) = false))
 (h7 : (InI64 (((i : Nat) : Int) + (1 : Int))))
 (h8 : (b = b')) :
 ∃ ps, stepPs Tryd.prog DS [] 100 (bodyN Tryd.f35 1) 100 (pr1Sn n x out b i).st [.is true, .is false] .normal (pr1Sn n x out b' ((i : Int) + 1)) = some ps ∧ AllQ ps := ⟨_, by kernel_rfl, qc h1 (qc h2 (qc h3 (qc h4 (qc h5 (qc h6 (qc h7 (qc (Eq.refl n) (qc (Eq.refl x) (qc h8 (qc (Eq.refl ((((List.length out) : Nat) : Int))) (qc (Eq.refl ((((i : Nat) : Int) + (1 : Int)))) (qc (Eq.refl out) (qn)))))))))))))⟩
theorem pr_end (n x : Int) (out : List Int) (b : Bool) (i : Nat)
 (h1 : ((decide (((i : Nat) : Int) < (((List.length out) : Nat) : Int))) = false)) :
 ∃ ps, stepPs Tryd.prog DS [] 100 (bodyN Tryd.f35 1) 100 (pr1Sn n x out b i).st [.is false] (.exit 2) (pr2Sn n x out b) = some ps ∧ AllQ ps := ⟨_, by kernel_rfl, qc h1 (qc (Eq.refl n) (qc (Eq.refl x) (qc (Eq.refl b) (qc (Eq.refl out) (qn)))))⟩
theorem pr_yes (n x x' : Int) (out out' : List Int) (b0 b : Bool)
 (h1 : ((decide ((((List.length out) : Nat) : Int) < n)) = true))
 (h2 : SumOK Tryd.prog DS (bodyN Tryd.f35 1) (loopL DS (pr1Sn n x out b0 (0 : Nat)) (.exit 2) (pr2Sn n x out b)))
 (h3 : (true = b0))
 (h4 : (b = true))
 (h5 : (((List.length out) + (1 : Nat)) ≤ (9223372036854775807 : Nat)))
 (h6 : ((((List.length out) + (1 : Nat)) * (8 : Nat)) ≤ (140737488355328 : Nat)))
 (h7 : ((Go.IntKind.wrap Go.IntKind.u64 (x + (1 : Int))) = x'))
 (h8 : ((out ++ ([x] : List Int)) = out')) :
 ∃ ps, stepPs Tryd.prog DS [] 100 (bodyN Tryd.f35 0) 100 (prSn n x out).st [.is true, .loop (loopL DS (pr1Sn n x out b0 (0 : Nat)) (.exit 2) (pr2Sn n x out b)), .is true] .normal (prSn n x' out') = some ps ∧ AllQ ps := ⟨_, by kernel_rfl, qc h1 (qc h2 (qc (Eq.refl n) (qc (Eq.refl x) (qc h3 (qc (Eq.refl ((((List.length out) : Nat) : Int))) (qc (show ((0 : Int) = (((0 : Nat) : Nat) : Int)) from by decide) (qc (Eq.refl out) (qc h4 (qc h5 (qc h6 (qc (Eq.refl n) (qc h7 (qc h8 (qn))))))))))))))⟩
theorem pr_not (n x x' : Int) (out out' : List Int) (b0 b : Bool)
 (h1 : ((decide ((((List.length out) : Nat) : Int) < n)) = true))
 (h2 : SumOK Tryd.prog DS (bodyN Tryd.f35 1) (loopL DS (pr1Sn n x out b0 (0 : Nat)) (.exit 2) (pr2Sn n x out b)))
 (h3 : (true = b0))
 (h4 : (b = false))
 (h5 : ((Go.IntKind.wrap Go.IntKind.u64 (x + (1 : Int))) = x'))
 (h6 : (out = out')) :
 ∃ ps, stepPs Tryd.prog DS [] 100 (bodyN Tryd.f35 0) 100 (prSn n x out).st [.is true, .loop (loopL DS (pr1Sn n x out b0 (0 : Nat)) (.exit 2) (pr2Sn n x out b)), .is false] .normal (prSn n x' out') = some ps ∧ AllQ ps := ⟨_, by kernel_rfl, qc h1 (qc h2 (qc (Eq.refl n) (qc (Eq.refl x) (qc h3 (qc (Eq.refl ((((List.length out) : Nat) : Int))) (qc (show ((0 : Int) = (((0 : Nat) : Nat) : Int)) from by decide) (qc (Eq.refl out) (qc h4 (qc (Eq.refl n) (qc h5 (qc h6 (qn))))))))))))⟩
theorem pr_exit (n x : Int) (out : List Int)
 (h1 : ((decide ((((List.length out) : Nat) : Int) < n)) = false)) :
 ∃ ps, stepPs Tryd.prog DS [] 100 (bodyN Tryd.f35 0) 100 (prSn n x out).st [.is false] (.exit 0) (prSn n x out) = some ps ∧ AllQ ps := ⟨_, by kernel_rfl, qc h1 (qc (Eq.refl n) (qc (Eq.refl x) (qc (Eq.refl out) (qn))))⟩
theorem pr_run (n x : Int) (o0 out : List Int)
 (h1 : SumOK Tryd.prog DS (bodyN Tryd.f35 0) (loopL DS (prSn n 2 o0) (.exit 0) (prSn n x out)))
 (h2 : (([] : List (Int)) = o0)) :
 ∃ ps, runF Tryd.prog DS [] 100 Tryd.f35 [.one (.int .i64 false n)] [.loop (loopL DS (prSn n 2 o0) (.exit 0) (prSn n x out))] = some ((AV.v (A0.one (Part.fresh (0 : Nat) (70 : TypeId) Go.IntKind.u64 out))), ps) ∧ AllQ ps := ⟨_, by kernel_rfl, qc h1 (qc (Eq.refl n) (qc (Eq.refl ((2 : Int))) (qc h2 (qn))))⟩
def ofN (ll : List (List Int)) (k : Nat) : Nat := ((ll.take k).map List.length).sum
def ofSR (ll : List (List Int)) : Nat → List Int × List Int
  | 0 => (zero8, zero64)
  | k + 1 => (writeS (ofSR ll k).1 (ofSR ll k).2 (ofN ll k) (ll.getD k []), writeR (ofSR ll k).1 (ofSR ll k).2 (ofN ll k) (ll.getD k []))
def ofF (ll : List (List Int)) : List Int := sumF (ofSR ll ll.length).1 (ofSR ll ll.length).2 (ofN ll ll.length)
theorem ofN_succ {ll : List (List Int)} {k : Nat} (h : k < ll.length) : ofN ll (k + 1) = ofN ll k + (ll.getD k []).length := by
  unfold ofN
  rw [List.take_succ_eq_append_getElem h, List.map_append, List.sum_append, List.getD_eq_getElem?_getD, List.getElem?_eq_getElem h]
  simp
theorem ofN_le {ll : List (List Int)} : ∀ {k : Nat}, k ≤ ll.length → ofN ll k ≤ ofN ll ll.length := by
  intro k hk
  induction hd : ll.length - k generalizing k with
  | zero => rw [show k = ll.length from by omega]; exact Nat.le_refl _
  | succ d ih =>
    have := ih (k := k + 1) (by omega) (by omega)
    rw [ofN_succ (by omega)] at this
    omega
def ofD : FnD DS
  | [.one (.wordss .u8 ll)] => some (.v (.agg [.arr .u8 32 (ofF ll)]), [ofN ll ll.length ≤ 4611686018427387904, ll.length ≤ 9223372036854775807])
  | _ => none
theorem of_loop (ll : List (List Int)) (h : ofN ll ll.length ≤ 4611686018427387904) (hl : ll.length ≤ 9223372036854775807) : SumOK Tryd.prog DS (bodyN Tryd.f26 0) (loopL DS (ofSn zero8 zero64 ll 0 [slI 8 (0 : Nat)]) (.exit 0) (ofSn (ofSR ll ll.length).1 (ofSR ll ll.length).2 ll (ofN ll ll.length) [])) := by
  have hs := sum_loop gamO_ok mixed (c := bodyN Tryd.f26 0) (fun k => ofSn (ofSR ll k).1 (ofSR ll k).2 ll (ofN ll k) [slI 8 k]) ll.length (e := .exit 0) (s := ofSn (ofSR ll ll.length).1 (ofSR ll ll.length).2 ll (ofN ll ll.length) []) rfl (fun k hk => ?_) ?_
  · exact hs
  · have h1 := ofN_succ hk
    have h2 := ofN_le (ll := ll) (k := k + 1) (by omega)
    refine ⟨_, _, _, of_round (ofSR ll k).1 (ofSR ll k).2 (ofSR ll (k + 1)).1 (ofSR ll (k + 1)).2 ll (ofN ll k) (ofN ll (k + 1)) k (decide_eq_true (by omega)) (by omega) (by omega) (by omega) ?_ ⟨by omega, by omega⟩ rfl rfl ?_⟩
    · rw [Int.toNat_natCast]; omega
    · rw [Int.toNat_natCast]; omega
  · exact ⟨_, _, _, of_exit _ _ ll _ ll.length (decide_eq_false (by omega))⟩
theorem of_ok : FnOK Tryd.prog DS 26 ofD := by
  refine fnOK_of gamO_ok mixed Tryd.func26 (enters_of Tryd.func26 (by kernel_rfl) rfl) ?_
  intro xs r ps h hps
  unfold ofD at h
  split at h
  · rename_i ll
    simp only [Option.some.injEq, Prod.mk.injEq] at h
    obtain ⟨rfl, rfl⟩ := h
    have h1 : ofN ll ll.length ≤ 4611686018427387904 := hps _ (by simp)
    have h2 : ll.length ≤ 9223372036854775807 := hps _ (by simp)
    obtain ⟨qs, q1, q2⟩ := of_run (ofSR ll ll.length).1 (ofSR ll ll.length).2 zero8 zero64 ll (ofN ll ll.length) (of_loop ll h1 h2) rfl rfl (by omega) (by omega)
    exact ⟨_, _, _, _, _, fun w vs hx => hx, q1, q2, fun E v hv => hv⟩
  · cases h
theorem mul_ok : FnOK Tryd.prog DS 47 mulD := by
  refine fnOK_of gam_nil mixed Tryd.func47 (enters_of Tryd.func47 (by kernel_rfl) rfl) ?_
  intro xs r ps h hps
  unfold mulD at h
  split at h
  · rename_i _ a _ b
    simp only [Option.some.injEq, Prod.mk.injEq] at h
    obtain ⟨rfl, rfl⟩ := h
    obtain ⟨qs, h1, h2⟩ := mul_run a b
    exact ⟨_, _, _, _, _, fun w vs hx => args2 int_lit int_lit hx, h1, h2, fun E v hv => hv⟩
  · cases h
theorem gamQ_ok : GamOK Tryd.prog DS gamQ := gam_cons mul_ok gam_nil
def turnF (x n : Int) : Int := bitsOf .or .u32 (Int.fdiv x (2 ^ min n.toNat 32)) (IntKind.u32.wrap (x * 2 ^ min (IntKind.u64.wrap (32 - n)).toNat 32))
def turnD : FnD DS
  | [.one (.int .u32 _ x), .one (.int .u64 _ n)] => some (.v (.one (.int .u32 false (turnF x n))), [0 ≤ n, 0 ≤ IntKind.u64.wrap (32 - n)])
  | _ => none
theorem turn_ok : FnOK Tryd.prog DS 38 turnD := by
  refine fnOK_of gam_nil mixed Tryd.func38 (enters_of Tryd.func38 (by kernel_rfl) rfl) ?_
  intro xs r ps h hps
  unfold turnD at h
  split at h
  · rename_i _ a _ b
    simp only [Option.some.injEq, Prod.mk.injEq] at h
    obtain ⟨rfl, rfl⟩ := h
    obtain ⟨qs, h1, h2⟩ := turn_run a b (hps _ (by simp)) (hps _ (by simp))
    exact ⟨_, _, _, _, _, fun w vs hx => args2 int_lit int_lit hx, h1, h2, fun E v hv => hv⟩
  · cases h
def yy (x bit : Int) : Int := bitsOf .or .u64 x (IntKind.u64.wrap (1 * 2 ^ min (IntKind.u64.wrap bit).toNat 64))
def sqC (p y : Int) : Bool := decide (mulHi y y < p) || ((mulHi y y == p) && (mulLo y y == 0))
def sqStep (p x bit : Int) : Int := bif sqC p (yy x bit) then yy x bit else x
def sqIt (p : Int) : Nat → Int
  | 0 => 0
  | k + 1 => sqStep p (sqIt p k) (40 - (k : Int))
theorem wrap_bit {bit : Int} : 0 ≤ IntKind.u64.wrap bit := by rw [IntKind.wrap_u64]; omega
theorem sq_round (p x bit : Int) (h0 : 0 ≤ bit) (h1 : bit ≤ 40) : ∃ fuel nid ds ps, stepPs Tryd.prog DS gamQ fuel (bodyN Tryd.f37 0) nid (sqSn p x bit).st ds .normal (sqSn p (sqStep p x bit) (bit - 1)) = some ps ∧ AllQ ps := by
  have hb : decide (bit ≥ 0) = true := decide_eq_true h0
  have hi : InI64 (bit - 1) := ⟨by omega, by omega⟩
  cases e1 : decide (mulHi (yy x bit) (yy x bit) < p)
  · cases e2 : (mulHi (yy x bit) (yy x bit) == p)
    · exact ⟨_, _, _, sq_t4 p x (sqStep p x bit) bit hb wrap_bit e1 e2 hi (by simp [sqStep, sqC, e1, e2])⟩
    · cases e3 : (mulLo (yy x bit) (yy x bit) == 0)
      · exact ⟨_, _, _, sq_t3 p x (sqStep p x bit) bit hb wrap_bit e1 e2 e3 hi (by simp [sqStep, sqC, e1, e2, e3])⟩
      · exact ⟨_, _, _, sq_t2 p x (sqStep p x bit) bit hb wrap_bit e1 e2 e3 hi (by simp only [sqStep, sqC, e1, e2, e3]; rfl)⟩
  · exact ⟨_, _, _, sq_t1 p x (sqStep p x bit) bit hb wrap_bit e1 hi (by simp only [sqStep, sqC, e1]; rfl)⟩
def squareF (p : Int) : Int := IntKind.u32.wrap (sqIt p 41)
def squareD : FnD DS
  | [.one (.int .u64 _ p)] => some (.v (.one (.int .u32 false (squareF p))), [])
  | _ => none
theorem square_ok : FnOK Tryd.prog DS 37 squareD := by
  refine fnOK_of gamQ_ok mixed Tryd.func37 (enters_of Tryd.func37 (by kernel_rfl) rfl) ?_
  intro xs r ps h hps
  unfold squareD at h
  split at h
  · rename_i _ p
    simp only [Option.some.injEq, Prod.mk.injEq] at h
    obtain ⟨rfl, rfl⟩ := h
    have hs := sum_loop gamQ_ok mixed (c := bodyN Tryd.f37 0) (fun k => sqSn p (sqIt p k) (40 - (k : Int))) 41 (e := .exit 0) (s := sqSn p (sqIt p 41) (40 - ((41 : Nat) : Int))) rfl (fun k hk => ?_) ?_
    · obtain ⟨qs, h1, h2⟩ := sq_run p (sqIt p 41) (40 - ((41 : Nat) : Int)) hs
      exact ⟨_, _, _, _, _, fun w vs hx => args1 int_lit hx, h1, h2, fun E v hv => hv⟩
    · have := sq_round p (sqIt p k) (40 - (k : Int)) (by omega) (by omega)
      rw [show (40 - (k : Int)) - 1 = 40 - ((k + 1 : Nat) : Int) from by omega] at this
      exact this
    · exact ⟨_, _, _, sq_exit p (sqIt p 41) _ (decide_eq_false (by omega))⟩
  · cases h
def cbMid (y : Int) : Int := IntKind.u64.wrap (mulLo (mulHi y y) y + mulHi (mulLo y y) y)
def cbK (y : Int) : Bool := decide (cbMid y < mulLo (mulHi y y) y)
def cbC (p y : Int) : Bool := ((bif cbK y then IntKind.u64.wrap (mulHi (mulHi y y) y + 1) else mulHi (mulHi y y) y) == 0) &&
  (decide (cbMid y < IntKind.u64.wrap (p * 2 ^ min 32 64)) || ((cbMid y == IntKind.u64.wrap (p * 2 ^ min 32 64)) && (mulLo (mulLo y y) y == 0)))
def cbStep (p x bit : Int) : Int := bif cbC p (yy x bit) then yy x bit else x
def cbIt (p : Int) : Nat → Int
  | 0 => 0
  | k + 1 => cbStep p (cbIt p k) (36 - (k : Int))
theorem cb_round (p x bit : Int) (h0 : 0 ≤ bit) (h1 : bit ≤ 36) : ∃ fuel nid ds ps, stepPs Tryd.prog DS gamQ fuel (bodyN Tryd.f36 0) nid (cbSn p x bit).st ds .normal (cbSn p (cbStep p x bit) (bit - 1)) = some ps ∧ AllQ ps := by
  have hb : decide (bit ≥ 0) = true := decide_eq_true h0
  have hi : InI64 (bit - 1) := ⟨by omega, by omega⟩
  cases e1 : cbK (yy x bit)
  · cases e2 : (mulHi (mulHi (yy x bit) (yy x bit)) (yy x bit) == 0)
    · exact ⟨_, _, _, cb_n_ne p x (cbStep p x bit) bit hb wrap_bit e1 e2 hi (by unfold cbStep cbC; rw [e1, cond_false, e2]; rfl)⟩
    · cases e3 : decide (cbMid (yy x bit) < IntKind.u64.wrap (p * 2 ^ min 32 64))
      · cases e4 : (cbMid (yy x bit) == IntKind.u64.wrap (p * 2 ^ min 32 64))
        · exact ⟨_, _, _, cb_n_gt p x (cbStep p x bit) bit hb wrap_bit e1 e2 e3 e4 hi (by unfold cbStep cbC; rw [e1, cond_false, e2, e3, e4]; rfl)⟩
        · cases e5 : (mulLo (mulLo (yy x bit) (yy x bit)) (yy x bit) == 0)
          · exact ⟨_, _, _, cb_n_eq1 p x (cbStep p x bit) bit hb wrap_bit e1 e2 e3 e4 e5 hi (by unfold cbStep cbC; rw [e1, cond_false, e2, e3, e4, e5]; rfl)⟩
          · exact ⟨_, _, _, cb_n_eq0 p x (cbStep p x bit) bit hb wrap_bit e1 e2 e3 e4 e5 hi (by unfold cbStep cbC; rw [e1, cond_false, e2, e3, e4, e5]; rfl)⟩
      · exact ⟨_, _, _, cb_n_lt p x (cbStep p x bit) bit hb wrap_bit e1 e2 e3 hi (by unfold cbStep cbC; rw [e1, cond_false, e2, e3]; rfl)⟩
  · cases e2 : (IntKind.u64.wrap (mulHi (mulHi (yy x bit) (yy x bit)) (yy x bit) + 1) == 0)
    · exact ⟨_, _, _, cb_c_ne p x (cbStep p x bit) bit hb wrap_bit e1 e2 hi (by unfold cbStep cbC; rw [e1, cond_true, e2]; rfl)⟩
    · cases e3 : decide (cbMid (yy x bit) < IntKind.u64.wrap (p * 2 ^ min 32 64))
      · cases e4 : (cbMid (yy x bit) == IntKind.u64.wrap (p * 2 ^ min 32 64))
        · exact ⟨_, _, _, cb_c_gt p x (cbStep p x bit) bit hb wrap_bit e1 e2 e3 e4 hi (by unfold cbStep cbC; rw [e1, cond_true, e2, e3, e4]; rfl)⟩
        · cases e5 : (mulLo (mulLo (yy x bit) (yy x bit)) (yy x bit) == 0)
          · exact ⟨_, _, _, cb_c_eq1 p x (cbStep p x bit) bit hb wrap_bit e1 e2 e3 e4 e5 hi (by unfold cbStep cbC; rw [e1, cond_true, e2, e3, e4, e5]; rfl)⟩
          · exact ⟨_, _, _, cb_c_eq0 p x (cbStep p x bit) bit hb wrap_bit e1 e2 e3 e4 e5 hi (by unfold cbStep cbC; rw [e1, cond_true, e2, e3, e4, e5]; rfl)⟩
      · exact ⟨_, _, _, cb_c_lt p x (cbStep p x bit) bit hb wrap_bit e1 e2 e3 hi (by unfold cbStep cbC; rw [e1, cond_true, e2, e3]; rfl)⟩
def cubeF (p : Int) : Int := IntKind.u32.wrap (cbIt p 37)
def cubeD : FnD DS
  | [.one (.int .u64 _ p)] => some (.v (.one (.int .u32 false (cubeF p))), [])
  | _ => none
theorem cube_ok : FnOK Tryd.prog DS 36 cubeD := by
  refine fnOK_of gamQ_ok mixed Tryd.func36 (enters_of Tryd.func36 (by kernel_rfl) rfl) ?_
  intro xs r ps h hps
  unfold cubeD at h
  split at h
  · rename_i _ p
    simp only [Option.some.injEq, Prod.mk.injEq] at h
    obtain ⟨rfl, rfl⟩ := h
    have hs := sum_loop gamQ_ok mixed (c := bodyN Tryd.f36 0) (fun k => cbSn p (cbIt p k) (36 - (k : Int))) 37 (e := .exit 0) (s := cbSn p (cbIt p 37) (36 - ((37 : Nat) : Int))) rfl (fun k hk => ?_) ?_
    · obtain ⟨qs, h1, h2⟩ := cb_run p (cbIt p 37) (36 - ((37 : Nat) : Int)) hs
      exact ⟨_, _, _, _, _, fun w vs hx => args1 int_lit hx, h1, h2, fun E v hv => hv⟩
    · have := cb_round p (cbIt p k) (36 - (k : Int)) (by omega) (by omega)
      rw [show (36 - (k : Int)) - 1 = 36 - ((k + 1 : Nat) : Int) from by omega] at this
      exact this
    · exact ⟨_, _, _, cb_exit p (cbIt p 37) _ (decide_eq_false (by omega))⟩
  · cases h
def primesL : List Int := [2, 3, 5, 7, 11, 13, 17, 19, 23, 29, 31, 37, 41, 43, 47, 53, 59, 61, 67, 71, 73, 79, 83, 89, 97, 101, 103, 107, 109, 113, 127, 131, 137, 139, 149, 151, 157, 163, 167, 173, 179, 181, 191, 193, 197, 199, 211, 223, 227, 229, 233, 239, 241, 251, 257, 263, 269, 271, 277, 281, 283, 293, 307, 311]
def prB (x : Int) (out : List Int) : Nat → Bool
  | 0 => true
  | i + 1 => bif Int.tmod x (out.getD i 0) == 0 then false else prB x out i
def prIt : Nat → List Int
  | 0 => []
  | k + 1 => bif prB ((k : Int) + 2) (prIt k) (prIt k).length then prIt k ++ [(k : Int) + 2] else prIt k
theorem prIt_pos : ∀ k, ∀ x ∈ prIt k, x ≠ 0
  | 0, x, h => by cases h
  | k + 1, x, h => by
    unfold prIt at h
    cases hb : prB ((k : Int) + 2) (prIt k) (prIt k).length <;> rw [hb] at h <;> simp only [cond_true, cond_false] at h
    · exact prIt_pos k x h
    · rcases List.mem_append.1 h with h | h
      · exact prIt_pos k x h
      · simp at h; omega
theorem prIt_mono (k : Nat) : (prIt k).length ≤ (prIt (k + 1)).length := by
  show _ ≤ List.length (bif prB ((k : Int) + 2) (prIt k) (prIt k).length then prIt k ++ [(k : Int) + 2] else prIt k)
  cases prB ((k : Int) + 2) (prIt k) (prIt k).length <;> simp
theorem prIt_le {j k : Nat} (h : j ≤ k) : (prIt j).length ≤ (prIt k).length := by
  induction h with
  | refl => exact Nat.le_refl _
  | step _ ih => exact Nat.le_trans ih (prIt_mono _)
theorem prIt_end : prIt 310 = primesL := by kernel_rfl
theorem prIt_last : (prIt 309).length = 63 := by kernel_rfl
theorem pr_loop1 (k : Nat) (hl : (prIt k).length ≤ 64) : SumOK Tryd.prog DS (bodyN Tryd.f35 1) (loopL DS (pr1Sn 64 ((k : Int) + 2) (prIt k) true (0 : Nat)) (.exit 2) (pr2Sn 64 ((k : Int) + 2) (prIt k) (prB ((k : Int) + 2) (prIt k) (prIt k).length))) := by
  refine sum_loop gam_nil mixed (fun i => pr1Sn 64 ((k : Int) + 2) (prIt k) (prB ((k : Int) + 2) (prIt k) i) i) (prIt k).length rfl (fun i hi => ?_) ?_
  · have hnz : (prIt k).getD (Int.toNat (i : Int)) 0 ≠ 0 := by
      rw [Int.toNat_natCast, List.getD_eq_getElem?_getD, List.getElem?_eq_getElem hi]
      exact prIt_pos k _ (List.getElem_mem hi)
    cases hb : (Int.tmod ((k : Int) + 2) ((prIt k).getD (Int.toNat (i : Int)) 0) == 0)
    · refine ⟨_, _, _, pr_no 64 ((k : Int) + 2) (prIt k) (prB ((k : Int) + 2) (prIt k) i) (prB ((k : Int) + 2) (prIt k) (i + 1)) i (decide_eq_true (by omega)) (by omega) (by omega) (by rw [Int.toNat_natCast]; exact hi) hnz hb (inI64_small (by omega) (by omega)) ?_⟩
      rw [Int.toNat_natCast] at hb
      simp only [prB, hb, cond_false]
    · refine ⟨_, _, _, pr_in 64 ((k : Int) + 2) (prIt k) (prB ((k : Int) + 2) (prIt k) i) (prB ((k : Int) + 2) (prIt k) (i + 1)) i (decide_eq_true (by omega)) (by omega) (by omega) (by rw [Int.toNat_natCast]; exact hi) hnz hb (inI64_small (by omega) (by omega)) ?_⟩
      rw [Int.toNat_natCast] at hb
      simp only [prB, hb, cond_true]
  · exact ⟨_, _, _, pr_end 64 ((k : Int) + 2) (prIt k) _ (prIt k).length (decide_eq_false (by omega))⟩
theorem pr_loop0 : SumOK Tryd.prog DS (bodyN Tryd.f35 0) (loopL DS (prSn 64 2 (prIt 0)) (.exit 0) (prSn 64 312 (prIt 310))) := by
  have hs := sum_loop gam_nil mixed (c := bodyN Tryd.f35 0) (fun k => prSn 64 ((k : Int) + 2) (prIt k)) 310 (e := .exit 0) (s := prSn 64 312 (prIt 310)) rfl (fun k hk => ?_) ?_
  · exact hs
  · have hl : (prIt k).length ≤ 63 := by have := prIt_le (j := k) (k := 309) (by omega); rw [prIt_last] at this; exact this
    have hx : IntKind.u64.wrap (((k : Int) + 2) + 1) = ((k + 1 : Nat) : Int) + 2 := by rw [IntKind.wrap_u64]; omega
    cases hb : prB ((k : Int) + 2) (prIt k) (prIt k).length
    · exact ⟨_, _, _, pr_not 64 ((k : Int) + 2) (((k + 1 : Nat) : Int) + 2) (prIt k) (prIt (k + 1)) true _ (decide_eq_true (by omega)) (pr_loop1 k (by omega)) rfl hb hx (by simp [prIt, hb])⟩
    · exact ⟨_, _, _, pr_yes 64 ((k : Int) + 2) (((k + 1 : Nat) : Int) + 2) (prIt k) (prIt (k + 1)) true _ (decide_eq_true (by omega)) (pr_loop1 k (by omega)) rfl hb (by omega) (by omega) hx (by simp [prIt, hb])⟩
  · exact ⟨_, _, _, pr_exit 64 312 (prIt 310) (by rw [prIt_end]; rfl)⟩
def primesD : FnD DS
  | [.one (.int .i64 _ n)] => some (.v (.one (.fresh 0 70 .u64 primesL)), [n = 64])
  | _ => none
theorem primes_ok : FnOK Tryd.prog DS 35 primesD := by
  refine fnOK_of gam_nil mixed Tryd.func35 (enters_of Tryd.func35 (by kernel_rfl) rfl) ?_
  intro xs r ps h hps
  unfold primesD at h
  split at h
  · rename_i _ n
    simp only [Option.some.injEq, Prod.mk.injEq] at h
    obtain ⟨rfl, rfl⟩ := h
    have hn : n = 64 := hps _ (by simp)
    subst hn
    obtain ⟨qs, h1, h2⟩ := pr_run 64 312 (prIt 0) (prIt 310) pr_loop0 rfl
    exact ⟨_, _, _, _, _, fun w vs hx => args1 int_lit hx, h1, h2, fun E v hv => by rw [prIt_end] at hv; exact hv⟩
  · cases h
theorem cubes : primesL.map cubeF = rootsL := by kernel_rfl
theorem squares : (primesL.take 8).map squareF = firstL := by kernel_rfl
end Go.Num
namespace Go.Num
open Go.Abs Go.Proofs Go.Shelf
noncomputable def gamR : Gam DS := [(35, .fn primesD), (36, .fn cubeD), (37, .fn squareD), (38, .fn turnD), (9, .fn (copyD DS))]
theorem gamR_ok : GamOK Tryd.prog DS gamR := gam_cons primes_ok (gam_cons cube_ok (gam_cons square_ok (gam_cons turn_ok (gam_cons (copy_ok DS) gam_nil))))
def rf0Sn (l p k h : List Int) (i : Int) : Sn DS.τ where
  slots := [(0, .v (.one (.words .u8 l))), (3, .v (.one (.own 0))), (4, .v (.one (.own 1))), (5, .v (.one (.own 2))), slI 6 i]
  boxes := [(0, .dyn 70 (.ints .u64 p)), (1, .dyn 68 (.ints .u32 k)), (2, .dyn 68 (.ints .u32 h))]
  nt := 349
def rf1Sn (l k h m : List Int) (sl : List (Nat × AV DS.τ)) : Sn DS.τ where
  slots := [(0, .v (.one (.words .u8 l))), (4, .v (.one (.own 1))), (5, .v (.one (.own 2))), (7, .v (.one (.own 3)))] ++ sl
  boxes := [(1, .dyn 68 (.ints .u32 k)), (2, .dyn 68 (.ints .u32 h)), (3, .dyn 5 (.ints .u8 m))]
  nt := 349
def rf3Sn (k h m : List Int) (sl : List (Nat × AV DS.τ)) : Sn DS.τ where
  slots := [(4, .v (.one (.own 1))), (5, .v (.one (.own 2))), (7, .v (.one (.own 3)))] ++ sl
  boxes := [(1, .dyn 68 (.ints .u32 k)), (2, .dyn 68 (.ints .u32 h)), (3, .dyn 5 (.ints .u8 m))]
  nt := 349
def rf4Sn (k h m w : List Int) (at' : Int) (sl : List (Nat × AV DS.τ)) : Sn DS.τ where
  slots := [(4, .v (.one (.own 1))), (5, .v (.one (.own 2))), (7, .v (.one (.own 3))), slI 10 at', (11, .v (.one (.own 4)))] ++ sl
  boxes := [(1, .dyn 68 (.ints .u32 k)), (2, .dyn 68 (.ints .u32 h)), (3, .dyn 5 (.ints .u8 m)), (4, .dyn 68 (.ints .u32 w))]
  nt := 349
def rf6Sn (k h m w v : List Int) (at' : Int) (sl : List (Nat × AV DS.τ)) : Sn DS.τ where
  slots := [(4, .v (.one (.own 1))), (5, .v (.one (.own 2))), (7, .v (.one (.own 3))), slI 10 at', (11, .v (.one (.own 4))), (17, .v (.one (.own 5)))] ++ sl
  boxes := [(1, .dyn 68 (.ints .u32 k)), (2, .dyn 68 (.ints .u32 h)), (3, .dyn 5 (.ints .u8 m)), (4, .dyn 68 (.ints .u32 w)), (5, .dyn 68 (.ints .u32 v))]
  nt := 349
def rf8Sn (h o : List Int) (i : Int) : Sn DS.τ where
  slots := [(5, .v (.one (.own 2))), (22, .v (.one (.own 6))), slI 23 i]
  boxes := [(2, .dyn 68 (.ints .u32 h)), (6, .dyn 5 (.ints .u8 o))]
  nt := 349
def rfEnd (o : List Int) : Sn DS.τ where
  slots := [(22, .v (.one (.own 6)))]
  boxes := [(6, .dyn 5 (.ints .u8 o))]
  nt := 349
theorem rf0_a (l p k h k' h' : List Int) (i : Nat)
 (h1 : ((decide (((i : Nat) : Int) < (64 : Int))) = true))
 (h2 : ((0 : Int) ≤ ((i : Nat) : Int)))
 (h3 : (((i : Nat) : Int) < (((List.length p) : Nat) : Int)))
 (h4 : ((Int.toNat ((i : Nat) : Int)) < (List.length p)))
 (h5 : (((List.length k) + (1 : Nat)) ≤ (9223372036854775807 : Nat)))
 (h6 : ((((List.length k) + (1 : Nat)) * (4 : Nat)) ≤ (140737488355328 : Nat)))
 (h7 : ((decide (((i : Nat) : Int) < (8 : Int))) = true))
 (h8 : (((List.length h) + (1 : Nat)) ≤ (9223372036854775807 : Nat)))
 (h9 : ((((List.length h) + (1 : Nat)) * (4 : Nat)) ≤ (140737488355328 : Nat)))
 (h10 : (InI64 (((i : Nat) : Int) + (1 : Int))))
 (h11 : ((k ++ ([(cubeF (List.getD p (Int.toNat ((i : Nat) : Int)) (0 : Int)))] : List Int)) = k'))
 (h12 : ((h ++ ([(squareF (List.getD p (Int.toNat ((i : Nat) : Int)) (0 : Int)))] : List Int)) = h')) :
 ∃ ps, stepPs Tryd.prog DS gamR 100 (bodyN Tryd.f14 0) 100 (rf0Sn l p k h i).st [.is true, .is true] .normal (rf0Sn l p k' h' ((i : Int) + 1)) = some ps ∧ AllQ ps := ⟨_, by kernel_rfl, qc h1 (qc h2 (qc h3 (qc h4 (qc h5 (qc h6 (qc h7 (qc h2 (qc h3 (qc h4 (qc h8 (qc h9 (qc h10 (qc (Eq.refl l) (qc (Eq.refl ((((i : Nat) : Int) + (1 : Int)))) (qc (Eq.refl p) (qc h11 (qc h12 (qn))))))))))))))))))⟩
theorem rf0_b (l p k h k' h' : List Int) (i : Nat)
 (h1 : ((decide (((i : Nat) : Int) < (64 : Int))) = true))
 (h2 : ((0 : Int) ≤ ((i : Nat) : Int)))
 (h3 : (((i : Nat) : Int) < (((List.length p) : Nat) : Int)))
 (h4 : ((Int.toNat ((i : Nat) : Int)) < (List.length p)))
 (h5 : (((List.length k) + (1 : Nat)) ≤ (9223372036854775807 : Nat)))
 (h6 : ((((List.length k) + (1 : Nat)) * (4 : Nat)) ≤ (140737488355328 : Nat)))
 (h7 : ((decide (((i : Nat) : Int) < (8 : Int))) = false))
 (h8 : (InI64 (((i : Nat) : Int) + (1 : Int))))
 (h9 : ((k ++ ([(cubeF (List.getD p (Int.toNat ((i : Nat) : Int)) (0 : Int)))] : List Int)) = k'))
 (h10 : (h = h')) :
 ∃ ps, stepPs Tryd.prog DS gamR 100 (bodyN Tryd.f14 0) 100 (rf0Sn l p k h i).st [.is true, .is false] .normal (rf0Sn l p k' h' ((i : Int) + 1)) = some ps ∧ AllQ ps := ⟨_, by kernel_rfl, qc h1 (qc h2 (qc h3 (qc h4 (qc h5 (qc h6 (qc h7 (qc h8 (qc (Eq.refl l) (qc (Eq.refl ((((i : Nat) : Int) + (1 : Int)))) (qc (Eq.refl p) (qc h9 (qc h10 (qn)))))))))))))⟩
theorem rf0_x (l p k h : List Int) (i : Nat)
 (h1 : ((decide (((i : Nat) : Int) < (64 : Int))) = false)) :
 ∃ ps, stepPs Tryd.prog DS gamR 100 (bodyN Tryd.f14 0) 100 (rf0Sn l p k h i).st [.is false] (.exit 0) (rf0Sn l p k h i) = some ps ∧ AllQ ps := ⟨_, by kernel_rfl, qc h1 (qc (Eq.refl l) (qc (Eq.refl (((i : Nat) : Int))) (qc (Eq.refl p) (qc (Eq.refl k) (qc (Eq.refl h) (qn))))))⟩
theorem rf1_r (l k h m m' : List Int)
 (h1 : (((Int.tmod (((List.length m) : Nat) : Int) (64 : Int)) != (56 : Int)) = true))
 (h2 : (((List.length m) + (1 : Nat)) ≤ (9223372036854775807 : Nat)))
 (h3 : ((((List.length m) + (1 : Nat)) * (1 : Nat)) ≤ (140737488355328 : Nat)))
 (h4 : ((m ++ ([(0 : Int)] : List Int)) = m')) :
 ∃ ps, stepPs Tryd.prog DS gamR 100 (bodyN Tryd.f14 1) 100 (rf1Sn l k h m []).st [.is true] .normal (rf1Sn l k h m' []) = some ps ∧ AllQ ps := ⟨_, by kernel_rfl, qc h1 (qc h2 (qc h3 (qc (Eq.refl l) (qc (Eq.refl k) (qc (Eq.refl h) (qc h4 (qn)))))))⟩
theorem rf1_x (l k h m : List Int)
 (h1 : (((Int.tmod (((List.length m) : Nat) : Int) (64 : Int)) != (56 : Int)) = false)) :
 ∃ ps, stepPs Tryd.prog DS gamR 100 (bodyN Tryd.f14 1) 100 (rf1Sn l k h m []).st [.is false] (.exit 2) (rf1Sn l k h m []) = some ps ∧ AllQ ps := ⟨_, by kernel_rfl, qc h1 (qc (Eq.refl l) (qc (Eq.refl k) (qc (Eq.refl h) (qc (Eq.refl m) (qn)))))⟩
theorem rf2_r (l k h m m' : List Int) (z i : Int)
 (h1 : ((decide (i ≥ (0 : Int))) = true))
 (h2 : (InI64 ((8 : Int) * i)))
 (h3 : ((0 : Int) ≤ (Go.IntKind.wrap Go.IntKind.u64 ((8 : Int) * i))))
 (h4 : (((List.length m) + (1 : Nat)) ≤ (9223372036854775807 : Nat)))
 (h5 : ((((List.length m) + (1 : Nat)) * (1 : Nat)) ≤ (140737488355328 : Nat)))
 (h6 : (InI64 (i - (1 : Int))))
 (h7 : ((m ++ ([(Go.IntKind.wrap Go.IntKind.u8 (Int.fdiv z ((2 : Int) ^ (min (Int.toNat (Go.IntKind.wrap Go.IntKind.u64 ((8 : Int) * i))) (64 : Nat)))))] : List Int)) = m')) :
 ∃ ps, stepPs Tryd.prog DS gamR 100 (bodyN Tryd.f14 2) 100 (rf1Sn l k h m [(8, .v (.one (.int .u64 false z))), slI 9 i]).st [.is true] .normal (rf1Sn l k h m' [(8, .v (.one (.int .u64 false z))), slI 9 (i - 1)]) = some ps ∧ AllQ ps := ⟨_, by kernel_rfl, qc h1 (qc h2 (qc h3 (qc h4 (qc h5 (qc h6 (qc (Eq.refl l) (qc (Eq.refl z) (qc (Eq.refl ((i - (1 : Int)))) (qc (Eq.refl k) (qc (Eq.refl h) (qc h7 (qn))))))))))))⟩
theorem rf2_x (l k h m : List Int) (z i : Int)
 (h1 : ((decide (i ≥ (0 : Int))) = false)) :
 ∃ ps, stepPs Tryd.prog DS gamR 100 (bodyN Tryd.f14 2) 100 (rf1Sn l k h m [(8, .v (.one (.int .u64 false z))), slI 9 i]).st [.is false] (.exit 4) (rf3Sn k h m []) = some ps ∧ AllQ ps := ⟨_, by kernel_rfl, qc h1 (qc (Eq.refl k) (qc (Eq.refl h) (qc (Eq.refl m) (qn))))⟩
theorem rf4_r (k h m w w' : List Int) (at' : Int) (i : Nat)
 (h1 : ((decide (((i : Nat) : Int) < (16 : Int))) = true))
 (h2 : (InI64 ((4 : Int) * ((i : Nat) : Int))))
 (h3 : (InI64 (at' + ((4 : Int) * ((i : Nat) : Int)))))
 (h4 : ((0 : Int) ≤ (at' + ((4 : Int) * ((i : Nat) : Int)))))
 (h5 : ((at' + ((4 : Int) * ((i : Nat) : Int))) < (((List.length m) : Nat) : Int)))
 (h6 : ((Int.toNat (at' + ((4 : Int) * ((i : Nat) : Int)))) < (List.length m)))
 (h7 : (InI64 ((at' + ((4 : Int) * ((i : Nat) : Int))) + (1 : Int))))
 (h8 : ((0 : Int) ≤ ((at' + ((4 : Int) * ((i : Nat) : Int))) + (1 : Int))))
 (h9 : (((at' + ((4 : Int) * ((i : Nat) : Int))) + (1 : Int)) < (((List.length m) : Nat) : Int)))
 (h10 : ((Int.toNat ((at' + ((4 : Int) * ((i : Nat) : Int))) + (1 : Int))) < (List.length m)))
 (h11 : (InI64 ((at' + ((4 : Int) * ((i : Nat) : Int))) + (2 : Int))))
 (h12 : ((0 : Int) ≤ ((at' + ((4 : Int) * ((i : Nat) : Int))) + (2 : Int))))
 (h13 : (((at' + ((4 : Int) * ((i : Nat) : Int))) + (2 : Int)) < (((List.length m) : Nat) : Int)))
 (h14 : ((Int.toNat ((at' + ((4 : Int) * ((i : Nat) : Int))) + (2 : Int))) < (List.length m)))
 (h15 : (InI64 ((at' + ((4 : Int) * ((i : Nat) : Int))) + (3 : Int))))
 (h16 : ((0 : Int) ≤ ((at' + ((4 : Int) * ((i : Nat) : Int))) + (3 : Int))))
 (h17 : (((at' + ((4 : Int) * ((i : Nat) : Int))) + (3 : Int)) < (((List.length m) : Nat) : Int)))
 (h18 : ((Int.toNat ((at' + ((4 : Int) * ((i : Nat) : Int))) + (3 : Int))) < (List.length m)))
 (h19 : (((List.length w) + (1 : Nat)) ≤ (9223372036854775807 : Nat)))
 (h20 : ((((List.length w) + (1 : Nat)) * (4 : Nat)) ≤ (140737488355328 : Nat)))
 (h21 : (InI64 (((i : Nat) : Int) + (1 : Int))))
 (h22 : ((w ++ ([(bitsOf Go.BinOp.or Go.IntKind.u32 (bitsOf Go.BinOp.or Go.IntKind.u32 (bitsOf Go.BinOp.or Go.IntKind.u32 (Go.IntKind.wrap Go.IntKind.u32 ((Go.IntKind.wrap Go.IntKind.u32 (List.getD m (Int.toNat (at' + ((4 : Int) * ((i : Nat) : Int)))) (0 : Int))) * ((2 : Int) ^ (min (24 : Nat) (32 : Nat))))) (Go.IntKind.wrap Go.IntKind.u32 ((Go.IntKind.wrap Go.IntKind.u32 (List.getD m (Int.toNat ((at' + ((4 : Int) * ((i : Nat) : Int))) + (1 : Int))) (0 : Int))) * ((2 : Int) ^ (min (16 : Nat) (32 : Nat)))))) (Go.IntKind.wrap Go.IntKind.u32 ((Go.IntKind.wrap Go.IntKind.u32 (List.getD m (Int.toNat ((at' + ((4 : Int) * ((i : Nat) : Int))) + (2 : Int))) (0 : Int))) * ((2 : Int) ^ (min (8 : Nat) (32 : Nat)))))) (Go.IntKind.wrap Go.IntKind.u32 (List.getD m (Int.toNat ((at' + ((4 : Int) * ((i : Nat) : Int))) + (3 : Int))) (0 : Int))))] : List Int)) = w')) :
 ∃ ps, stepPs Tryd.prog DS gamR 100 (bodyN Tryd.f14 4) 100 (rf4Sn k h m w at' [slI 12 i]).st [.is true] .normal (rf4Sn k h m w' at' [slI 12 ((i : Int) + 1)]) = some ps ∧ AllQ ps := ⟨_, by kernel_rfl, qc h1 (qc h2 (qc h3 (qc h4 (qc h5 (qc h6 (qc h7 (qc h8 (qc h9 (qc h10 (qc h11 (qc h12 (qc h13 (qc h14 (qc h15 (qc h16 (qc h17 (qc h18 (qc h19 (qc h20 (qc h21 (qc (Eq.refl (at')) (qc (Eq.refl ((((i : Nat) : Int) + (1 : Int)))) (qc (Eq.refl k) (qc (Eq.refl h) (qc (Eq.refl m) (qc h22 (qn)))))))))))))))))))))))))))⟩
theorem rf4_x (k h m w : List Int) (at' : Int) (i : Nat)
 (h1 : ((decide (((i : Nat) : Int) < (16 : Int))) = false)) :
 ∃ ps, stepPs Tryd.prog DS gamR 100 (bodyN Tryd.f14 4) 100 (rf4Sn k h m w at' [slI 12 i]).st [.is false] (.exit 8) (rf4Sn k h m w at' []) = some ps ∧ AllQ ps := ⟨_, by kernel_rfl, qc h1 (qc (Eq.refl (at')) (qc (Eq.refl k) (qc (Eq.refl h) (qc (Eq.refl m) (qc (Eq.refl w) (qn))))))⟩
theorem rf5_r (k h m w w' : List Int) (at' i : Int)
 (h1 : ((decide (i < (64 : Int))) = true))
 (h2 : (InI64 (i - (15 : Int))))
 (h3 : ((0 : Int) ≤ (i - (15 : Int))))
 (h4 : ((i - (15 : Int)) < (((List.length w) : Nat) : Int)))
 (h5 : ((Int.toNat (i - (15 : Int))) < (List.length w)))
 (h6 : (InI64 (i - (2 : Int))))
 (h7 : ((0 : Int) ≤ (i - (2 : Int))))
 (h8 : ((i - (2 : Int)) < (((List.length w) : Nat) : Int)))
 (h9 : ((Int.toNat (i - (2 : Int))) < (List.length w)))
 (h10 : (InI64 (i - (16 : Int))))
 (h11 : ((0 : Int) ≤ (i - (16 : Int))))
 (h12 : ((i - (16 : Int)) < (((List.length w) : Nat) : Int)))
 (h13 : ((Int.toNat (i - (16 : Int))) < (List.length w)))
 (h14 : (InI64 (i - (7 : Int))))
 (h15 : ((0 : Int) ≤ (i - (7 : Int))))
 (h16 : ((i - (7 : Int)) < (((List.length w) : Nat) : Int)))
 (h17 : ((Int.toNat (i - (7 : Int))) < (List.length w)))
 (h18 : (((List.length w) + (1 : Nat)) ≤ (9223372036854775807 : Nat)))
 (h19 : ((((List.length w) + (1 : Nat)) * (4 : Nat)) ≤ (140737488355328 : Nat)))
 (h20 : (InI64 (i + (1 : Int))))
 (h21 : ((w ++ ([(Go.IntKind.wrap Go.IntKind.u32 ((Go.IntKind.wrap Go.IntKind.u32 ((Go.IntKind.wrap Go.IntKind.u32 ((List.getD w (Int.toNat (i - (16 : Int))) (0 : Int)) + (bitsOf Go.BinOp.xor Go.IntKind.u32 (bitsOf Go.BinOp.xor Go.IntKind.u32 (turnF (List.getD w (Int.toNat (i - (15 : Int))) (0 : Int)) (7 : Int)) (turnF (List.getD w (Int.toNat (i - (15 : Int))) (0 : Int)) (18 : Int))) (Int.fdiv (List.getD w (Int.toNat (i - (15 : Int))) (0 : Int)) ((2 : Int) ^ (min (3 : Nat) (32 : Nat))))))) + (List.getD w (Int.toNat (i - (7 : Int))) (0 : Int)))) + (bitsOf Go.BinOp.xor Go.IntKind.u32 (bitsOf Go.BinOp.xor Go.IntKind.u32 (turnF (List.getD w (Int.toNat (i - (2 : Int))) (0 : Int)) (17 : Int)) (turnF (List.getD w (Int.toNat (i - (2 : Int))) (0 : Int)) (19 : Int))) (Int.fdiv (List.getD w (Int.toNat (i - (2 : Int))) (0 : Int)) ((2 : Int) ^ (min (10 : Nat) (32 : Nat)))))))] : List Int)) = w')) :
 ∃ ps, stepPs Tryd.prog DS gamR 100 (bodyN Tryd.f14 5) 100 (rf4Sn k h m w at' [slI 14 i]).st [.is true] .normal (rf4Sn k h m w' at' [slI 14 (i + 1)]) = some ps ∧ AllQ ps := ⟨_, by kernel_rfl, qc h1 (qc h2 (qc h3 (qc h4 (qc h5 (qc (show ((0 : Int) ≤ (7 : Int)) from by decide) (qc (show ((0 : Int) ≤ (Go.IntKind.wrap Go.IntKind.u64 ((32 : Int) - (7 : Int)))) from by decide) (qc h2 (qc h3 (qc h4 (qc h5 (qc (show ((0 : Int) ≤ (18 : Int)) from by decide) (qc (show ((0 : Int) ≤ (Go.IntKind.wrap Go.IntKind.u64 ((32 : Int) - (18 : Int)))) from by decide) (qc h2 (qc h3 (qc h4 (qc h5 (qc h6 (qc h7 (qc h8 (qc h9 (qc (show ((0 : Int) ≤ (17 : Int)) from by decide) (qc (show ((0 : Int) ≤ (Go.IntKind.wrap Go.IntKind.u64 ((32 : Int) - (17 : Int)))) from by decide) (qc h6 (qc h7 (qc h8 (qc h9 (qc (show ((0 : Int) ≤ (19 : Int)) from by decide) (qc (show ((0 : Int) ≤ (Go.IntKind.wrap Go.IntKind.u64 ((32 : Int) - (19 : Int)))) from by decide) (qc h6 (qc h7 (qc h8 (qc h9 (qc h10 (qc h11 (qc h12 (qc h13 (qc h14 (qc h15 (qc h16 (qc h17 (qc h18 (qc h19 (qc h20 (qc (Eq.refl (at')) (qc (Eq.refl ((i + (1 : Int)))) (qc (Eq.refl k) (qc (Eq.refl h) (qc (Eq.refl m) (qc h21 (qn))))))))))))))))))))))))))))))))))))))))))))))))))⟩
theorem rf5_x (k h m w : List Int) (at' i : Int)
 (h1 : ((decide (i < (64 : Int))) = false)) :
 ∃ ps, stepPs Tryd.prog DS gamR 100 (bodyN Tryd.f14 5) 100 (rf4Sn k h m w at' [slI 14 i]).st [.is false] (.exit 10) (rf4Sn k h m w at' []) = some ps ∧ AllQ ps := ⟨_, by kernel_rfl, qc h1 (qc (Eq.refl (at')) (qc (Eq.refl k) (qc (Eq.refl h) (qc (Eq.refl m) (qc (Eq.refl w) (qn))))))⟩
theorem rf6_r (k h m w v v' : List Int) (at' : Int) (i : Nat)
 (h1 : ((decide (((i : Nat) : Int) < (64 : Int))) = true))
 (h2 : ((7 : Int) < (((List.length v) : Nat) : Int)))
 (h3 : ((7 : Nat) < (List.length v)))
 (h4 : ((4 : Int) < (((List.length v) : Nat) : Int)))
 (h5 : ((4 : Nat) < (List.length v)))
 (h6 : ((5 : Int) < (((List.length v) : Nat) : Int)))
 (h7 : ((5 : Nat) < (List.length v)))
 (h8 : ((6 : Int) < (((List.length v) : Nat) : Int)))
 (h9 : ((6 : Nat) < (List.length v)))
 (h10 : ((0 : Int) ≤ ((i : Nat) : Int)))
 (h11 : (((i : Nat) : Int) < (((List.length k) : Nat) : Int)))
 (h12 : ((Int.toNat ((i : Nat) : Int)) < (List.length k)))
 (h13 : (((i : Nat) : Int) < (((List.length w) : Nat) : Int)))
 (h14 : ((Int.toNat ((i : Nat) : Int)) < (List.length w)))
 (h15 : ((0 : Int) < (((List.length v) : Nat) : Int)))
 (h16 : ((0 : Nat) < (List.length v)))
 (h17 : ((1 : Int) < (((List.length v) : Nat) : Int)))
 (h18 : ((1 : Nat) < (List.length v)))
 (h19 : ((2 : Int) < (((List.length v) : Nat) : Int)))
 (h20 : ((2 : Nat) < (List.length v)))
 (h21 : ((3 : Int) < (((List.length v) : Nat) : Int)))
 (h22 : ((3 : Nat) < (List.length v)))
 (h23 : (InI64 (((i : Nat) : Int) + (1 : Int))))
 (h24 : (([(Go.IntKind.wrap Go.IntKind.u32 ((Go.IntKind.wrap Go.IntKind.u32 ((Go.IntKind.wrap Go.IntKind.u32 ((Go.IntKind.wrap Go.IntKind.u32 ((Go.IntKind.wrap Go.IntKind.u32 ((List.getD v (7 : Nat) (0 : Int)) + (bitsOf Go.BinOp.xor Go.IntKind.u32 (bitsOf Go.BinOp.xor Go.IntKind.u32 (turnF (List.getD v (4 : Nat) (0 : Int)) (6 : Int)) (turnF (List.getD v (4 : Nat) (0 : Int)) (11 : Int))) (turnF (List.getD v (4 : Nat) (0 : Int)) (25 : Int))))) + (bitsOf Go.BinOp.xor Go.IntKind.u32 (bitsOf Go.BinOp.and Go.IntKind.u32 (List.getD v (4 : Nat) (0 : Int)) (List.getD v (5 : Nat) (0 : Int))) (bitsOf Go.BinOp.and Go.IntKind.u32 (bitsOf Go.BinOp.xor Go.IntKind.u32 (if (false = true) then (-(1 : Int)) else (if (false = true) then (((2 : Int) ^ ((32 : Nat) - (1 : Nat))) - (1 : Int)) else (((2 : Int) ^ (32 : Nat)) - (1 : Int)))) (List.getD v (4 : Nat) (0 : Int))) (List.getD v (6 : Nat) (0 : Int)))))) + (List.getD k (Int.toNat ((i : Nat) : Int)) (0 : Int)))) + (List.getD w (Int.toNat ((i : Nat) : Int)) (0 : Int)))) + (Go.IntKind.wrap Go.IntKind.u32 ((bitsOf Go.BinOp.xor Go.IntKind.u32 (bitsOf Go.BinOp.xor Go.IntKind.u32 (turnF (List.getD v (0 : Nat) (0 : Int)) (2 : Int)) (turnF (List.getD v (0 : Nat) (0 : Int)) (13 : Int))) (turnF (List.getD v (0 : Nat) (0 : Int)) (22 : Int))) + (bitsOf Go.BinOp.xor Go.IntKind.u32 (bitsOf Go.BinOp.xor Go.IntKind.u32 (bitsOf Go.BinOp.and Go.IntKind.u32 (List.getD v (0 : Nat) (0 : Int)) (List.getD v (1 : Nat) (0 : Int))) (bitsOf Go.BinOp.and Go.IntKind.u32 (List.getD v (0 : Nat) (0 : Int)) (List.getD v (2 : Nat) (0 : Int)))) (bitsOf Go.BinOp.and Go.IntKind.u32 (List.getD v (1 : Nat) (0 : Int)) (List.getD v (2 : Nat) (0 : Int)))))))), (List.getD v (0 : Nat) (0 : Int)), (List.getD v (1 : Nat) (0 : Int)), (List.getD v (2 : Nat) (0 : Int)), (Go.IntKind.wrap Go.IntKind.u32 ((List.getD v (3 : Nat) (0 : Int)) + (Go.IntKind.wrap Go.IntKind.u32 ((Go.IntKind.wrap Go.IntKind.u32 ((Go.IntKind.wrap Go.IntKind.u32 ((Go.IntKind.wrap Go.IntKind.u32 ((List.getD v (7 : Nat) (0 : Int)) + (bitsOf Go.BinOp.xor Go.IntKind.u32 (bitsOf Go.BinOp.xor Go.IntKind.u32 (turnF (List.getD v (4 : Nat) (0 : Int)) (6 : Int)) (turnF (List.getD v (4 : Nat) (0 : Int)) (11 : Int))) (turnF (List.getD v (4 : Nat) (0 : Int)) (25 : Int))))) + (bitsOf Go.BinOp.xor Go.IntKind.u32 (bitsOf Go.BinOp.and Go.IntKind.u32 (List.getD v (4 : Nat) (0 : Int)) (List.getD v (5 : Nat) (0 : Int))) (bitsOf Go.BinOp.and Go.IntKind.u32 (bitsOf Go.BinOp.xor Go.IntKind.u32 (if (false = true) then (-(1 : Int)) else (if (false = true) then (((2 : Int) ^ ((32 : Nat) - (1 : Nat))) - (1 : Int)) else (((2 : Int) ^ (32 : Nat)) - (1 : Int)))) (List.getD v (4 : Nat) (0 : Int))) (List.getD v (6 : Nat) (0 : Int)))))) + (List.getD k (Int.toNat ((i : Nat) : Int)) (0 : Int)))) + (List.getD w (Int.toNat ((i : Nat) : Int)) (0 : Int)))))), (List.getD v (4 : Nat) (0 : Int)), (List.getD v (5 : Nat) (0 : Int)), (List.getD v (6 : Nat) (0 : Int))] : List Int) = v')) :
 ∃ ps, stepPs Tryd.prog DS gamR 100 (bodyN Tryd.f14 6) 100 (rf6Sn k h m w v at' [slI 18 i]).st [.is true] .normal (rf6Sn k h m w v' at' [slI 18 ((i : Int) + 1)]) = some ps ∧ AllQ ps := ⟨_, by kernel_rfl, qc h1 (qc (show ((0 : Int) ≤ (7 : Int)) from by decide) (qc h2 (qc h3 (qc (show ((0 : Int) ≤ (4 : Int)) from by decide) (qc h4 (qc h5 (qc (show ((0 : Int) ≤ (6 : Int)) from by decide) (qc (show ((0 : Int) ≤ (Go.IntKind.wrap Go.IntKind.u64 ((32 : Int) - (6 : Int)))) from by decide) (qc (show ((0 : Int) ≤ (4 : Int)) from by decide) (qc h4 (qc h5 (qc (show ((0 : Int) ≤ (11 : Int)) from by decide) (qc (show ((0 : Int) ≤ (Go.IntKind.wrap Go.IntKind.u64 ((32 : Int) - (11 : Int)))) from by decide) (qc (show ((0 : Int) ≤ (4 : Int)) from by decide) (qc h4 (qc h5 (qc (show ((0 : Int) ≤ (25 : Int)) from by decide) (qc (show ((0 : Int) ≤ (Go.IntKind.wrap Go.IntKind.u64 ((32 : Int) - (25 : Int)))) from by decide) (qc (show ((0 : Int) ≤ (4 : Int)) from by decide) (qc h4 (qc h5 (qc (show ((0 : Int) ≤ (5 : Int)) from by decide) (qc h6 (qc h7 (qc (show ((0 : Int) ≤ (4 : Int)) from by decide) (qc h4 (qc h5 (qc (show ((0 : Int) ≤ (6 : Int)) from by decide) (qc h8 (qc h9 (qc h10 (qc h11 (qc h12 (qc h10 (qc h13 (qc h14 (qc (show ((0 : Int) ≤ (0 : Int)) from by decide) (qc h15 (qc h16 (qc (show ((0 : Int) ≤ (2 : Int)) from by decide) (qc (show ((0 : Int) ≤ (Go.IntKind.wrap Go.IntKind.u64 ((32 : Int) - (2 : Int)))) from by decide) (qc (show ((0 : Int) ≤ (0 : Int)) from by decide) (qc h15 (qc h16 (qc (show ((0 : Int) ≤ (13 : Int)) from by decide) (qc (show ((0 : Int) ≤ (Go.IntKind.wrap Go.IntKind.u64 ((32 : Int) - (13 : Int)))) from by decide) (qc (show ((0 : Int) ≤ (0 : Int)) from by decide) (qc h15 (qc h16 (qc (show ((0 : Int) ≤ (22 : Int)) from by decide) (qc (show ((0 : Int) ≤ (Go.IntKind.wrap Go.IntKind.u64 ((32 : Int) - (22 : Int)))) from by decide) (qc (show ((0 : Int) ≤ (0 : Int)) from by decide) (qc h15 (qc h16 (qc (show ((0 : Int) ≤ (1 : Int)) from by decide) (qc h17 (qc h18 (qc (show ((0 : Int) ≤ (0 : Int)) from by decide) (qc h15 (qc h16 (qc (show ((0 : Int) ≤ (2 : Int)) from by decide) (qc h19 (qc h20 (qc (show ((0 : Int) ≤ (1 : Int)) from by decide) (qc h17 (qc h18 (qc (show ((0 : Int) ≤ (2 : Int)) from by decide) (qc h19 (qc h20 (qc (show ((0 : Int) ≤ (0 : Int)) from by decide) (qc h15 (qc h16 (qc (show ((0 : Int) ≤ (1 : Int)) from by decide) (qc h17 (qc h18 (qc (show ((0 : Int) ≤ (2 : Int)) from by decide) (qc h19 (qc h20 (qc (show ((0 : Int) ≤ (3 : Int)) from by decide) (qc h21 (qc h22 (qc (show ((0 : Int) ≤ (4 : Int)) from by decide) (qc h4 (qc h5 (qc (show ((0 : Int) ≤ (5 : Int)) from by decide) (qc h6 (qc h7 (qc (show ((0 : Int) ≤ (6 : Int)) from by decide) (qc h8 (qc h9 (qc h23 (qc (Eq.refl (at')) (qc (Eq.refl ((((i : Nat) : Int) + (1 : Int)))) (qc (Eq.refl k) (qc (Eq.refl h) (qc (Eq.refl m) (qc (Eq.refl w) (qc h24 (qn)))))))))))))))))))))))))))))))))))))))))))))))))))))))))))))))))))))))))))))))))))))))))))))))))))⟩
theorem rf6_x (k h m w v : List Int) (at' : Int) (i : Nat)
 (h1 : ((decide (((i : Nat) : Int) < (64 : Int))) = false)) :
 ∃ ps, stepPs Tryd.prog DS gamR 100 (bodyN Tryd.f14 6) 100 (rf6Sn k h m w v at' [slI 18 i]).st [.is false] (.exit 12) (rf6Sn k h m w v at' []) = some ps ∧ AllQ ps := ⟨_, by kernel_rfl, qc h1 (qc (Eq.refl (at')) (qc (Eq.refl k) (qc (Eq.refl h) (qc (Eq.refl m) (qc (Eq.refl w) (qc (Eq.refl v) (qn)))))))⟩
theorem rf7_r (k h m w v h' : List Int) (at' : Int) (i : Nat)
 (h1 : ((decide (((i : Nat) : Int) < (8 : Int))) = true))
 (h2 : ((0 : Int) ≤ ((i : Nat) : Int)))
 (h3 : (((i : Nat) : Int) < (((List.length h) : Nat) : Int)))
 (h4 : ((Int.toNat ((i : Nat) : Int)) < (List.length h)))
 (h5 : (((i : Nat) : Int) < (((List.length v) : Nat) : Int)))
 (h6 : ((Int.toNat ((i : Nat) : Int)) < (List.length v)))
 (h7 : (InI64 (((i : Nat) : Int) + (1 : Int))))
 (h8 : ((List.set h (Int.toNat ((i : Nat) : Int)) (Go.IntKind.wrap Go.IntKind.u32 ((List.getD h (Int.toNat ((i : Nat) : Int)) (0 : Int)) + (List.getD v (Int.toNat ((i : Nat) : Int)) (0 : Int))))) = h')) :
 ∃ ps, stepPs Tryd.prog DS gamR 100 (bodyN Tryd.f14 7) 100 (rf6Sn k h m w v at' [slI 21 i]).st [.is true] .normal (rf6Sn k h' m w v at' [slI 21 ((i : Int) + 1)]) = some ps ∧ AllQ ps := ⟨_, by kernel_rfl, qc h1 (qc h2 (qc h3 (qc h4 (qc h2 (qc h5 (qc h6 (qc h2 (qc h3 (qc h4 (qc (Eq.refl ((some (1 : Nat)))) (qc h7 (qc (Eq.refl (at')) (qc (Eq.refl ((((i : Nat) : Int) + (1 : Int)))) (qc (Eq.refl k) (qc h8 (qc (Eq.refl m) (qc (Eq.refl w) (qc (Eq.refl v) (qn)))))))))))))))))))⟩
theorem rf7_x (k h m w v : List Int) (at' : Int) (i : Nat)
 (h1 : ((decide (((i : Nat) : Int) < (8 : Int))) = false)) :
 ∃ ps, stepPs Tryd.prog DS gamR 100 (bodyN Tryd.f14 7) 100 (rf6Sn k h m w v at' [slI 21 i]).st [.is false] (.exit 14) (rf3Sn k h m [slI 10 at']) = some ps ∧ AllQ ps := ⟨_, by kernel_rfl, qc h1 (qc (Eq.refl (at')) (qc (Eq.refl k) (qc (Eq.refl h) (qc (Eq.refl m) (qn)))))⟩
theorem rf8_r (h o o' : List Int) (i : Nat)
 (h1 : ((decide (((i : Nat) : Int) < (8 : Int))) = true))
 (h2 : ((0 : Int) ≤ ((i : Nat) : Int)))
 (h3 : (((i : Nat) : Int) < (((List.length h) : Nat) : Int)))
 (h4 : ((Int.toNat ((i : Nat) : Int)) < (List.length h)))
 (h5 : (((List.length o) + (4 : Nat)) ≤ (9223372036854775807 : Nat)))
 (h6 : ((((List.length o) + (4 : Nat)) * (1 : Nat)) ≤ (140737488355328 : Nat)))
 (h7 : (InI64 (((i : Nat) : Int) + (1 : Int))))
 (h8 : ((o ++ ([(Go.IntKind.wrap Go.IntKind.u8 (Int.fdiv (List.getD h (Int.toNat ((i : Nat) : Int)) (0 : Int)) ((2 : Int) ^ (min (24 : Nat) (32 : Nat))))), (Go.IntKind.wrap Go.IntKind.u8 (Int.fdiv (List.getD h (Int.toNat ((i : Nat) : Int)) (0 : Int)) ((2 : Int) ^ (min (16 : Nat) (32 : Nat))))), (Go.IntKind.wrap Go.IntKind.u8 (Int.fdiv (List.getD h (Int.toNat ((i : Nat) : Int)) (0 : Int)) ((2 : Int) ^ (min (8 : Nat) (32 : Nat))))), (Go.IntKind.wrap Go.IntKind.u8 (List.getD h (Int.toNat ((i : Nat) : Int)) (0 : Int)))] : List Int)) = o')) :
 ∃ ps, stepPs Tryd.prog DS gamR 100 (bodyN Tryd.f14 8) 100 (rf8Sn h o i).st [.is true] .normal (rf8Sn h o' ((i : Int) + 1)) = some ps ∧ AllQ ps := ⟨_, by kernel_rfl, qc h1 (qc h2 (qc h3 (qc h4 (qc h2 (qc h3 (qc h4 (qc h2 (qc h3 (qc h4 (qc h2 (qc h3 (qc h4 (qc h5 (qc h6 (qc h7 (qc (Eq.refl ((((i : Nat) : Int) + (1 : Int)))) (qc (Eq.refl h) (qc h8 (qn)))))))))))))))))))⟩
theorem rf8_x (h o : List Int) (i : Nat)
 (h1 : ((decide (((i : Nat) : Int) < (8 : Int))) = false)) :
 ∃ ps, stepPs Tryd.prog DS gamR 100 (bodyN Tryd.f14 8) 100 (rf8Sn h o i).st [.is false] (.exit 16) (rfEnd o) = some ps ∧ AllQ ps := ⟨_, by kernel_rfl, qc h1 (qc (Eq.refl o) (qn))⟩
theorem rf3_r (k h m w0 w1 w2 v h' : List Int) (at' : Int)
 (h1 : ((decide (at' < (((List.length m) : Nat) : Int))) = true))
 (h2 : SumOK Tryd.prog DS (bodyN Tryd.f14 4) (loopL DS (rf4Sn k h m w0 at' [slI 12 (0 : Nat)]) (.exit 8) (rf4Sn k h m w1 at' [])))
 (h3 : (([] : List (Int)) = w0))
 (h4 : SumOK Tryd.prog DS (bodyN Tryd.f14 5) (loopL DS (rf4Sn k h m w1 at' [slI 14 16]) (.exit 10) (rf4Sn k h m w2 at' [])))
 (h5 : (((0 : Nat) + (List.length h)) ≤ (9223372036854775807 : Nat)))
 (h6 : ((((0 : Nat) + (List.length h)) * (4 : Nat)) ≤ (140737488355328 : Nat)))
 (h7 : SumOK Tryd.prog DS (bodyN Tryd.f14 6) (loopL DS (rf6Sn k h m w2 h at' [slI 18 (0 : Nat)]) (.exit 12) (rf6Sn k h m w2 v at' [])))
 (h8 : ((([] : List (Int)) ++ h) = h))
 (h9 : SumOK Tryd.prog DS (bodyN Tryd.f14 7) (loopL DS (rf6Sn k h m w2 v at' [slI 21 (0 : Nat)]) (.exit 14) (rf3Sn k h' m [slI 10 at'])))
 (h10 : (InI64 (at' + (64 : Int)))) :
 ∃ ps, stepPs Tryd.prog DS gamR 100 (bodyN Tryd.f14 3) 100 (rf3Sn k h m [slI 10 at']).st [.is true, .loop (loopL DS (rf4Sn k h m w0 at' [slI 12 (0 : Nat)]) (.exit 8) (rf4Sn k h m w1 at' [])), .loop (loopL DS (rf4Sn k h m w1 at' [slI 14 16]) (.exit 10) (rf4Sn k h m w2 at' [])), .loop (loopL DS (rf6Sn k h m w2 h at' [slI 18 (0 : Nat)]) (.exit 12) (rf6Sn k h m w2 v at' [])), .loop (loopL DS (rf6Sn k h m w2 v at' [slI 21 (0 : Nat)]) (.exit 14) (rf3Sn k h' m [slI 10 at']))] .normal (rf3Sn k h' m [slI 10 (at' + 64)]) = some ps ∧ AllQ ps := ⟨_, by kernel_rfl, qc h1 (qc h2 (qc (Eq.refl (at')) (qc (show ((0 : Int) = (((0 : Nat) : Nat) : Int)) from by decide) (qc (Eq.refl k) (qc (Eq.refl h) (qc (Eq.refl m) (qc h3 (qc h4 (qc (Eq.refl (at')) (qc (Eq.refl ((16 : Int))) (qc (Eq.refl k) (qc (Eq.refl h) (qc (Eq.refl m) (qc (Eq.refl w1) (qc h5 (qc h6 (qc h7 (qc (Eq.refl (at')) (qc (show ((0 : Int) = (((0 : Nat) : Nat) : Int)) from by decide) (qc (Eq.refl k) (qc (Eq.refl h) (qc (Eq.refl m) (qc (Eq.refl w2) (qc h8 (qc h9 (qc (Eq.refl (at')) (qc (show ((0 : Int) = (((0 : Nat) : Nat) : Int)) from by decide) (qc (Eq.refl k) (qc (Eq.refl h) (qc (Eq.refl m) (qc (Eq.refl w2) (qc (Eq.refl v) (qc h10 (qc (Eq.refl ((at' + (64 : Int)))) (qc (Eq.refl k) (qc (Eq.refl (h')) (qc (Eq.refl m) (qn))))))))))))))))))))))))))))))))))))))⟩
theorem rf3_x (k h m : List Int) (at' : Int)
 (h1 : ((decide (at' < (((List.length m) : Nat) : Int))) = false)) :
 ∃ ps, stepPs Tryd.prog DS gamR 100 (bodyN Tryd.f14 3) 100 (rf3Sn k h m [slI 10 at']).st [.is false] (.exit 6) (rf3Sn k h m []) = some ps ∧ AllQ ps := ⟨_, by kernel_rfl, qc h1 (qc (Eq.refl k) (qc (Eq.refl h) (qc (Eq.refl m) (qn))))⟩
theorem rf_run (l k0 h0 k h m0 m1 m2 h' o0 o : List Int) (i z : Int)
 (h1 : SumOK Tryd.prog DS (bodyN Tryd.f14 0) (loopL DS (rf0Sn l primesL k0 h0 (0 : Nat)) (.exit 0) (rf0Sn l primesL k h i)))
 (h2 : (([] : List (Int)) = k0))
 (h3 : (([] : List (Int)) = h0))
 (h4 : ((List.length l) ≤ (281474976710656 : Nat)))
 (h5 : (((List.length l) + (1 : Nat)) ≤ (9223372036854775807 : Nat)))
 (h6 : ((((List.length l) + (1 : Nat)) * (1 : Nat)) ≤ (140737488355328 : Nat)))
 (h7 : SumOK Tryd.prog DS (bodyN Tryd.f14 1) (loopL DS (rf1Sn l k h m0 []) (.exit 2) (rf1Sn l k h m1 [])))
 (h8 : ((l ++ ([(128 : Int)] : List Int)) = m0))
 (h9 : SumOK Tryd.prog DS (bodyN Tryd.f14 2) (loopL DS (rf1Sn l k h m1 [(8, .v (.one (.int .u64 false z))), slI 9 7]) (.exit 4) (rf3Sn k h m2 [])))
 (h10 : ((Go.IntKind.wrap Go.IntKind.u64 ((Go.IntKind.wrap Go.IntKind.u64 (((List.length l) : Nat) : Int)) * (8 : Int))) = z))
 (h11 : SumOK Tryd.prog DS (bodyN Tryd.f14 3) (loopL DS (rf3Sn k h m2 [slI 10 (0 : Nat)]) (.exit 6) (rf3Sn k h' m2 [])))
 (h12 : SumOK Tryd.prog DS (bodyN Tryd.f14 8) (loopL DS (rf8Sn h' o0 (0 : Nat)) (.exit 16) (rfEnd o)))
 (h13 : (([] : List (Int)) = o0)) :
 ∃ ps, runF Tryd.prog DS gamR 100 Tryd.f14 [.one (.words .u8 l)] [.loop (loopL DS (rf0Sn l primesL k0 h0 (0 : Nat)) (.exit 0) (rf0Sn l primesL k h i)), .loop (loopL DS (rf1Sn l k h m0 []) (.exit 2) (rf1Sn l k h m1 [])), .loop (loopL DS (rf1Sn l k h m1 [(8, .v (.one (.int .u64 false z))), slI 9 7]) (.exit 4) (rf3Sn k h m2 [])), .loop (loopL DS (rf3Sn k h m2 [slI 10 (0 : Nat)]) (.exit 6) (rf3Sn k h' m2 [])), .loop (loopL DS (rf8Sn h' o0 (0 : Nat)) (.exit 16) (rfEnd o))] = some ((AV.v (A0.one (Part.fresh (0 : Nat) (5 : TypeId) Go.IntKind.u8 o))), ps) ∧ AllQ ps := ⟨_, by kernel_rfl, qc (Eq.refl ((64 : Int))) (qc h1 (qc (Eq.refl l) (qc (show ((0 : Int) = (((0 : Nat) : Nat) : Int)) from by decide) (qc (Eq.refl (([(2 : Int), (3 : Int), (5 : Int), (7 : Int), (11 : Int), (13 : Int), (17 : Int), (19 : Int), (23 : Int), (29 : Int), (31 : Int), (37 : Int), (41 : Int), (43 : Int), (47 : Int), (53 : Int), (59 : Int), (61 : Int), (67 : Int), (71 : Int), (73 : Int), (79 : Int), (83 : Int), (89 : Int), (97 : Int), (101 : Int), (103 : Int), (107 : Int), (109 : Int), (113 : Int), (127 : Int), (131 : Int), (137 : Int), (139 : Int), (149 : Int), (151 : Int), (157 : Int), (163 : Int), (167 : Int), (173 : Int), (179 : Int), (181 : Int), (191 : Int), (193 : Int), (197 : Int), (199 : Int), (211 : Int), (223 : Int), (227 : Int), (229 : Int), (233 : Int), (239 : Int), (241 : Int), (251 : Int), (257 : Int), (263 : Int), (269 : Int), (271 : Int), (277 : Int), (281 : Int), (283 : Int), (293 : Int), (307 : Int), (311 : Int)] : List Int))) (qc h2 (qc h3 (qc h4 (qc h5 (qc h6 (qc h7 (qc (Eq.refl l) (qc (Eq.refl k) (qc (Eq.refl h) (qc h8 (qc h9 (qc (Eq.refl l) (qc h10 (qc (Eq.refl ((7 : Int))) (qc (Eq.refl k) (qc (Eq.refl h) (qc (Eq.refl m1) (qc h11 (qc (show ((0 : Int) = (((0 : Nat) : Nat) : Int)) from by decide) (qc (Eq.refl k) (qc (Eq.refl h) (qc (Eq.refl m2) (qc h12 (qc (show ((0 : Int) = (((0 : Nat) : Nat) : Int)) from by decide) (qc (Eq.refl (h')) (qc h13 (qn)))))))))))))))))))))))))))))))⟩
end Go.Num
namespace Go.Num
open Go.Abs Go.Proofs Go.Shelf
def kIt (i : Nat) : List Int := (primesL.take i).map cubeF
def hIt (i : Nat) : List Int := (primesL.take (min i 8)).map squareF
def rfZ (N : Nat) : Int := IntKind.u64.wrap (IntKind.u64.wrap (N : Int) * 8)
def rfB (N : Nat) (i : Int) : Int := IntKind.u8.wrap (Int.fdiv (rfZ N) (2 ^ min (IntKind.u64.wrap (8 * i)).toNat 64))
def rfM1 (l : List Int) : List Int := l ++ 128 :: List.replicate (padN l.length) 0
def rfM2 (l : List Int) : Nat → List Int
  | 0 => rfM1 l
  | j + 1 => rfM2 l j ++ [rfB l.length (7 - (j : Int))]
def rfWord (m : List Int) (p : Int) : Int :=
  bitsOf .or .u32 (bitsOf .or .u32 (bitsOf .or .u32 (IntKind.u32.wrap (IntKind.u32.wrap (m.getD p.toNat 0) * 2 ^ min 24 32)) (IntKind.u32.wrap (IntKind.u32.wrap (m.getD (p + 1).toNat 0) * 2 ^ min 16 32))) (IntKind.u32.wrap (IntKind.u32.wrap (m.getD (p + 2).toNat 0) * 2 ^ min 8 32))) (IntKind.u32.wrap (m.getD (p + 3).toNat 0))
def rw4 (m : List Int) (at' : Int) : Nat → List Int
  | 0 => []
  | i + 1 => rw4 m at' i ++ [rfWord m (at' + 4 * (i : Int))]
def rw5W (w : List Int) (i : Int) : Int :=
  ad (ad (ad (w.getD (i - 16).toNat 0) (xr (xr (turnF (w.getD (i - 15).toNat 0) 7) (turnF (w.getD (i - 15).toNat 0) 18)) ((w.getD (i - 15).toNat 0).fdiv (2 ^ min 3 32)))) (w.getD (i - 7).toNat 0))
    (xr (xr (turnF (w.getD (i - 2).toNat 0) 17) (turnF (w.getD (i - 2).toNat 0) 19)) ((w.getD (i - 2).toNat 0).fdiv (2 ^ min 10 32)))
def rw5 (w : List Int) : Nat → List Int
  | 0 => w
  | k + 1 => rw5 w k ++ [rw5W (rw5 w k) (16 + (k : Int))]
def rvT (k w v : List Int) (i : Nat) : Int :=
  ad (ad (ad (ad (v.getD 7 0) (xr (xr (turnF (v.getD 4 0) 6) (turnF (v.getD 4 0) 11)) (turnF (v.getD 4 0) 25))) (xr (an (v.getD 4 0) (v.getD 5 0)) (an (nt (v.getD 4 0)) (v.getD 6 0)))) (k.getD (i : Int).toNat 0)) (w.getD (i : Int).toNat 0)
def rvU (v : List Int) : Int :=
  ad (xr (xr (turnF (v.getD 0 0) 2) (turnF (v.getD 0 0) 13)) (turnF (v.getD 0 0) 22)) (xr (xr (an (v.getD 0 0) (v.getD 1 0)) (an (v.getD 0 0) (v.getD 2 0))) (an (v.getD 1 0) (v.getD 2 0)))
def rvStep (k w v : List Int) (i : Nat) : List Int :=
  [ad (rvT k w v i) (rvU v), v.getD 0 0, v.getD 1 0, v.getD 2 0, ad (v.getD 3 0) (rvT k w v i), v.getD 4 0, v.getD 5 0, v.getD 6 0]
def rv6 (k w v : List Int) : Nat → List Int
  | 0 => v
  | i + 1 => rvStep k w (rv6 k w v i) i
def rfBlock (k h m : List Int) (at' : Int) : List Int := ts4 h (rv6 k (rw5 (rw4 m at' 16) 48) h 64) 8
def rfH (k h m : List Int) : Nat → List Int
  | 0 => h
  | n + 1 => rfBlock k (rfH k h m n) m (64 * (n : Int))
def rfO (h : List Int) : Nat → List Int
  | 0 => []
  | i + 1 => rfO h i ++ [IntKind.u8.wrap ((h.getD (i : Int).toNat 0).fdiv (2 ^ min 24 32)), IntKind.u8.wrap ((h.getD (i : Int).toNat 0).fdiv (2 ^ min 16 32)), IntKind.u8.wrap ((h.getD (i : Int).toNat 0).fdiv (2 ^ min 8 32)), IntKind.u8.wrap (h.getD (i : Int).toNat 0)]
def rfSum (l : List Int) : List Int := rfO (rfH rootsL firstL (rfM2 l 8) ((rfM2 l 8).length / 64)) 8
theorem rfM2_len (l : List Int) : ∀ j, (rfM2 l j).length = l.length + 1 + padN l.length + j
  | 0 => by simp [rfM2, rfM1]; omega
  | j + 1 => by simp [rfM2, rfM2_len l j]; omega
theorem rw4_len (m : List Int) (at' : Int) : ∀ i, (rw4 m at' i).length = i
  | 0 => rfl
  | i + 1 => by simp [rw4, rw4_len m at' i]
theorem rw5_len (w : List Int) : ∀ k, (rw5 w k).length = w.length + k
  | 0 => rfl
  | k + 1 => by simp [rw5, rw5_len w k]; omega
theorem rv6_len (k w v : List Int) (hv : v.length = 8) : ∀ i, (rv6 k w v i).length = 8
  | 0 => hv
  | _ + 1 => rfl
theorem ts4_len (s v : List Int) : ∀ i, (ts4 s v i).length = s.length
  | 0 => rfl
  | i + 1 => by simp [ts4, ts4_len s v i]
theorem rfH_len (k h m : List Int) (hh : h.length = 8) : ∀ n, (rfH k h m n).length = 8
  | 0 => hh
  | n + 1 => by
    show (ts4 _ _ 8).length = 8
    rw [ts4_len]; exact rfH_len k h m hh n
theorem rfO_len (h : List Int) : ∀ i, (rfO h i).length = 4 * i
  | 0 => rfl
  | i + 1 => by simp [rfO, rfO_len h i]; omega
theorem kIt_end : kIt 64 = rootsL := cubes
theorem hIt_end : hIt 64 = firstL := squares
theorem take_snoc {α : Type} {l : List α} {i : Nat} (d : α) (h : i < l.length) : l.take i ++ [l.getD i d] = l.take (i + 1) := by
  rw [List.take_succ_eq_append_getElem h, List.getD_eq_getElem?_getD, List.getElem?_eq_getElem h]; rfl
theorem primesL_len : primesL.length = 64 := rfl
theorem rf_l0 (l : List Int) : SumOK Tryd.prog DS (bodyN Tryd.f14 0) (loopL DS (rf0Sn l primesL (kIt 0) (hIt 0) (0 : Nat)) (.exit 0) (rf0Sn l primesL rootsL firstL (64 : Nat))) := by
  have hs := sum_loop gamR_ok mixed (c := bodyN Tryd.f14 0) (fun i => rf0Sn l primesL (kIt i) (hIt i) i) 64 (e := .exit 0) (s := rf0Sn l primesL rootsL firstL (64 : Nat)) rfl (fun i hi => ?_) ?_
  · exact hs
  · have hk : kIt i ++ [cubeF (primesL.getD (i : Int).toNat 0)] = kIt (i + 1) := by
      unfold kIt
      rw [Int.toNat_natCast, ← take_snoc 0 (show i < primesL.length by rw [primesL_len]; exact hi), List.map_append]; rfl
    have hkl : (kIt i).length ≤ 64 := by unfold kIt; rw [List.length_map, List.length_take, primesL_len]; omega
    have hhl : (hIt i).length ≤ 64 := by unfold hIt; rw [List.length_map, List.length_take, primesL_len]; omega
    have hp : (i : Int) < (primesL.length : Nat) := by rw [primesL_len]; omega
    by_cases h8 : i < 8
    · have hh : hIt i ++ [squareF (primesL.getD (i : Int).toNat 0)] = hIt (i + 1) := by
        unfold hIt
        rw [Int.toNat_natCast, Nat.min_eq_left (by omega), Nat.min_eq_left (by omega), ← take_snoc 0 (show i < primesL.length by rw [primesL_len]; exact hi), List.map_append]; rfl
      exact ⟨_, _, _, rf0_a l primesL (kIt i) (hIt i) (kIt (i + 1)) (hIt (i + 1)) i (decide_eq_true (by omega)) (by omega) hp (by omega) (by omega) (by omega) (decide_eq_true (by omega)) (by omega) (by omega) (inI64_small (by omega) (by omega)) hk hh⟩
    · have hh : hIt i = hIt (i + 1) := by
        unfold hIt
        rw [Nat.min_eq_right (by omega), Nat.min_eq_right (by omega)]
      exact ⟨_, _, _, rf0_b l primesL (kIt i) (hIt i) (kIt (i + 1)) (hIt (i + 1)) i (decide_eq_true (by omega)) (by omega) hp (by omega) (by omega) (by omega) (decide_eq_false (by omega)) (inI64_small (by omega) (by omega)) hk hh⟩
  · obtain ⟨qs, h1, h2⟩ := rf0_x l primesL (kIt 64) (hIt 64) 64 (decide_eq_false (by omega))
    rw [kIt_end, hIt_end] at h1
    rw [kIt_end, hIt_end]
    exact ⟨_, _, _, qs, h1, h2⟩
theorem padN_mod (N : Nat) : (N + 1 + padN N) % 64 = 56 := by unfold padN; omega
theorem padN_least (N j : Nat) (h : j < padN N) : (N + 1 + j) % 64 ≠ 56 := by unfold padN at h; omega
theorem rf_l1 (l k h : List Int) (hl : l.length ≤ 140737488351232) : SumOK Tryd.prog DS (bodyN Tryd.f14 1) (loopL DS (rf1Sn l k h (l ++ [128]) []) (.exit 2) (rf1Sn l k h (rfM1 l) [])) := by
  have hlen : ∀ j, (l ++ 128 :: List.replicate j 0).length = l.length + 1 + j := fun j => by simp; omega
  have hm : ∀ j : Nat, Int.tmod (((l ++ 128 :: List.replicate j 0).length : Nat) : Int) 64 = (((l.length + 1 + j) % 64 : Nat) : Int) := fun j => by rw [hlen]; exact tmod_nat _ 64
  have hp : padN l.length < 64 := by unfold padN; omega
  have hs := sum_loop gamR_ok mixed (c := bodyN Tryd.f14 1) (fun j => rf1Sn l k h (l ++ 128 :: List.replicate j 0) []) (padN l.length) (e := .exit 2) (s := rf1Sn l k h (rfM1 l) []) rfl (fun j hj => ?_) ?_
  · exact hs
  · have hne := padN_least _ _ hj
    refine ⟨_, _, _, rf1_r l k h (l ++ 128 :: List.replicate j 0) (l ++ 128 :: List.replicate (j + 1) 0) ?_ (by rw [hlen]; omega) (by rw [hlen]; omega) ?_⟩
    · rw [hm, bne_iff_ne]; omega
    · rw [List.append_assoc, List.cons_append, ← List.replicate_succ']
  · refine ⟨_, _, _, rf1_x l k h (rfM1 l) ?_⟩
    have := hm (padN l.length)
    unfold rfM1
    rw [this, padN_mod]; rfl
theorem rf_l2 (l k h : List Int) (hl : l.length ≤ 140737488351232) : SumOK Tryd.prog DS (bodyN Tryd.f14 2) (loopL DS (rf1Sn l k h (rfM1 l) [(8, .v (.one (.int .u64 false (rfZ l.length)))), slI 9 7]) (.exit 4) (rf3Sn k h (rfM2 l 8) [])) := by
  have hp : padN l.length < 64 := by unfold padN; omega
  have hs := sum_loop gamR_ok mixed (c := bodyN Tryd.f14 2) (fun j => rf1Sn l k h (rfM2 l j) [(8, .v (.one (.int .u64 false (rfZ l.length)))), slI 9 (7 - (j : Int))]) 8 (e := .exit 4) (s := rf3Sn k h (rfM2 l 8) []) rfl (fun j hj => ?_) ?_
  · exact hs
  · have hlen := rfM2_len l j
    have := rf2_r l k h (rfM2 l j) (rfM2 l (j + 1)) (rfZ l.length) (7 - (j : Int)) (decide_eq_true (by omega)) (inI64_small (by omega) (by omega)) wrap_bit (by rw [hlen]; omega) (by rw [hlen]; omega) ⟨by omega, by omega⟩ rfl
    rw [show (7 - (j : Int)) - 1 = 7 - ((j + 1 : Nat) : Int) from by omega] at this
    exact ⟨_, _, _, this⟩
  · exact ⟨_, _, _, rf2_x l k h (rfM2 l 8) (rfZ l.length) _ (decide_eq_false (by omega))⟩
theorem rf_l4 (k h m : List Int) (a : Nat) (ha : a + 64 ≤ m.length) (hl : m.length ≤ 140737488355328) : SumOK Tryd.prog DS (bodyN Tryd.f14 4) (loopL DS (rf4Sn k h m (rw4 m a 0) a [slI 12 (0 : Nat)]) (.exit 8) (rf4Sn k h m (rw4 m a 16) a [])) := by
  refine sum_loop gamR_ok mixed (fun i => rf4Sn k h m (rw4 m a i) a [slI 12 i]) 16 rfl (fun i hi => ?_) ?_
  · have hw := rw4_len m a i
    refine ⟨_, _, _, rf4_r k h m (rw4 m a i) (rw4 m a (i + 1)) a i (decide_eq_true (by omega)) ⟨by omega, by omega⟩ ⟨by omega, by omega⟩ (by omega) (by omega) (by omega) ⟨by omega, by omega⟩ (by omega) (by omega) (by omega) ⟨by omega, by omega⟩ (by omega) (by omega) (by omega) ⟨by omega, by omega⟩ (by omega) (by omega) (by omega) (by omega) (by omega) ⟨by omega, by omega⟩ rfl⟩
  · exact ⟨_, _, _, rf4_x k h m (rw4 m a 16) a 16 (decide_eq_false (by omega))⟩
theorem rf_l5 (k h m w : List Int) (a : Int) (hw : w.length = 16) : SumOK Tryd.prog DS (bodyN Tryd.f14 5) (loopL DS (rf4Sn k h m w a [slI 14 16]) (.exit 10) (rf4Sn k h m (rw5 w 48) a [])) := by
  have hs := sum_loop gamR_ok mixed (c := bodyN Tryd.f14 5) (fun j => rf4Sn k h m (rw5 w j) a [slI 14 (16 + (j : Int))]) 48 (e := .exit 10) (s := rf4Sn k h m (rw5 w 48) a []) rfl (fun j hj => ?_) ?_
  · exact hs
  · have hlen := rw5_len w j
    have := rf5_r k h m (rw5 w j) (rw5 w (j + 1)) a (16 + (j : Int)) (decide_eq_true (by omega)) ⟨by omega, by omega⟩ (by omega) (by omega) (by omega) ⟨by omega, by omega⟩ (by omega) (by omega) (by omega) ⟨by omega, by omega⟩ (by omega) (by omega) (by omega) ⟨by omega, by omega⟩ (by omega) (by omega) (by omega) (by omega) (by omega) ⟨by omega, by omega⟩ rfl
    rw [show (16 + (j : Int)) + 1 = 16 + ((j + 1 : Nat) : Int) from by omega] at this
    exact ⟨_, _, _, this⟩
  · exact ⟨_, _, _, rf5_x k h m (rw5 w 48) a _ (decide_eq_false (by omega))⟩
theorem rf_l6 (k h m w : List Int) (a : Int) (hk : k.length = 64) (hw : w.length = 64) (hh : h.length = 8) : SumOK Tryd.prog DS (bodyN Tryd.f14 6) (loopL DS (rf6Sn k h m w h a [slI 18 (0 : Nat)]) (.exit 12) (rf6Sn k h m w (rv6 k w h 64) a [])) := by
  refine sum_loop gamR_ok mixed (fun i => rf6Sn k h m w (rv6 k w h i) a [slI 18 i]) 64 rfl (fun i hi => ?_) ?_
  · have hv := rv6_len k w h hh i
    exact ⟨_, _, _, rf6_r k h m w (rv6 k w h i) (rv6 k w h (i + 1)) a i (decide_eq_true (by omega)) (by omega) (by omega) (by omega) (by omega) (by omega) (by omega) (by omega) (by omega) (by omega) (by omega) (by omega) (by omega) (by omega) (by omega) (by omega) (by omega) (by omega) (by omega) (by omega) (by omega) (by omega) ⟨by omega, by omega⟩ rfl⟩
  · exact ⟨_, _, _, rf6_x k h m w (rv6 k w h 64) a 64 (decide_eq_false (by omega))⟩
theorem rf_l7 (k h m w v : List Int) (a : Int) (hv : v.length = 8) (hh : h.length = 8) : SumOK Tryd.prog DS (bodyN Tryd.f14 7) (loopL DS (rf6Sn k h m w v a [slI 21 (0 : Nat)]) (.exit 14) (rf3Sn k (ts4 h v 8) m [slI 10 a])) := by
  have hs := sum_loop gamR_ok mixed (c := bodyN Tryd.f14 7) (fun i => rf6Sn k (ts4 h v i) m w v a [slI 21 i]) 8 (e := .exit 14) (s := rf3Sn k (ts4 h v 8) m [slI 10 a]) rfl (fun i hi => ?_) ?_
  · exact hs
  · have := ts4_len h v i
    exact ⟨_, _, _, rf7_r k (ts4 h v i) m w v (ts4 h v (i + 1)) a i (decide_eq_true (by omega)) (by omega) (by omega) (by omega) (by omega) (by omega) ⟨by omega, by omega⟩ rfl⟩
  · exact ⟨_, _, _, rf7_x k (ts4 h v 8) m w v a 8 (decide_eq_false (by omega))⟩
theorem rf_l3 (k h m : List Int) (hk : k.length = 64) (hh : h.length = 8) (hm : m.length % 64 = 0) (hl : m.length ≤ 140737488355328) : SumOK Tryd.prog DS (bodyN Tryd.f14 3) (loopL DS (rf3Sn k h m [slI 10 (0 : Nat)]) (.exit 6) (rf3Sn k (rfH k h m (m.length / 64)) m [])) := by
  have hs := sum_loop gamR_ok mixed (c := bodyN Tryd.f14 3) (fun n => rf3Sn k (rfH k h m n) m [slI 10 (64 * (n : Int))]) (m.length / 64) (e := .exit 6) (s := rf3Sn k (rfH k h m (m.length / 64)) m []) rfl (fun n hn => ?_) ?_
  · exact hs
  · have h8 := rfH_len k h m hh n
    have hc : (64 * (n : Int)) = ((64 * n : Nat) : Int) := by omega
    have hw4 := rw4_len m (64 * (n : Int)) 16
    have hw5 := rw5_len (rw4 m (64 * (n : Int)) 16) 48
    have l4 := rf_l4 k (rfH k h m n) m (64 * n) (by omega) hl
    rw [← hc] at l4
    have := rf3_r k (rfH k h m n) m (rw4 m (64 * (n : Int)) 0) (rw4 m (64 * (n : Int)) 16) (rw5 (rw4 m (64 * (n : Int)) 16) 48) (rv6 k (rw5 (rw4 m (64 * (n : Int)) 16) 48) (rfH k h m n) 64) (rfH k h m (n + 1)) (64 * (n : Int)) (decide_eq_true (by omega)) l4 rfl (rf_l5 k (rfH k h m n) m _ _ hw4) (by omega) (by omega) (rf_l6 k (rfH k h m n) m _ _ hk (by omega) h8) (List.nil_append _) (rf_l7 k (rfH k h m n) m _ _ _ (rv6_len k _ _ h8 64) h8) ⟨by omega, by omega⟩
    rw [show (64 * (n : Int)) + 64 = 64 * ((n + 1 : Nat) : Int) from by omega] at this
    exact ⟨_, _, _, this⟩
  · exact ⟨_, _, _, rf3_x k _ m _ (decide_eq_false (by omega))⟩
theorem rf_l8 (h : List Int) (hh : h.length = 8) : SumOK Tryd.prog DS (bodyN Tryd.f14 8) (loopL DS (rf8Sn h (rfO h 0) (0 : Nat)) (.exit 16) (rfEnd (rfO h 8))) := by
  refine sum_loop gamR_ok mixed (fun i => rf8Sn h (rfO h i) i) 8 rfl (fun i hi => ?_) ?_
  · have := rfO_len h i
    exact ⟨_, _, _, rf8_r h (rfO h i) (rfO h (i + 1)) i (decide_eq_true (by omega)) (by omega) (by omega) (by omega) (by omega) (by omega) ⟨by omega, by omega⟩ rfl⟩
  · exact ⟨_, _, _, rf8_x h (rfO h 8) 8 (decide_eq_false (by omega))⟩
def rfD : FnD DS
  | [.one (.words .u8 l)] => some (.v (.one (.fresh 0 5 .u8 (rfSum l))), [l.length ≤ 140737488351232])
  | _ => none
theorem ref_ok : FnOK Tryd.prog DS 14 rfD := by
  refine fnOK_of gamR_ok mixed Tryd.func14 (enters_of Tryd.func14 (by kernel_rfl) rfl) ?_
  intro xs r ps h hps
  unfold rfD at h
  split at h
  · rename_i l
    simp only [Option.some.injEq, Prod.mk.injEq] at h
    obtain ⟨rfl, rfl⟩ := h
    have hl : l.length ≤ 140737488351232 := hps _ (by simp)
    have hm := rfM2_len l 8
    have hp : padN l.length < 64 := by unfold padN; omega
    have h3 := padN_mod l.length
    obtain ⟨qs, q1, q2⟩ := rf_run l (kIt 0) (hIt 0) rootsL firstL (l ++ [128]) (rfM1 l) (rfM2 l 8) (rfH rootsL firstL (rfM2 l 8) ((rfM2 l 8).length / 64)) [] (rfSum l) (64 : Nat) (rfZ l.length) (rf_l0 l) rfl rfl (by omega) (by omega) (by omega) (rf_l1 l rootsL firstL hl) rfl (rf_l2 l rootsL firstL hl) rfl (rf_l3 rootsL firstL (rfM2 l 8) rfl rfl (by omega) (by omega)) (rf_l8 _ (rfH_len _ _ _ rfl _)) rfl
    exact ⟨_, _, _, _, _, fun w vs hx => hx, q1, q2, fun E v hv => hv⟩
  · cases h
end Go.Num
namespace Go.Num
open Go.Abs Go.Proofs Go.Shelf
theorem or_comm (k : IntKind) (x y : Int) : bitsOf .or k x y = bitsOf .or k y x := by
  show k.wrap (BitVec.ofInt k.bits x ||| BitVec.ofInt k.bits y).toNat = k.wrap (BitVec.ofInt k.bits y ||| BitVec.ofInt k.bits x).toNat
  rw [BitVec.or_comm]
theorem turn2 (x : Int) : turnF x 2 = sft x 30 2 := or_comm _ _ _
theorem turn6 (x : Int) : turnF x 6 = sft x 26 6 := or_comm _ _ _
theorem turn7 (x : Int) : turnF x 7 = sft x 25 7 := or_comm _ _ _
theorem turn11 (x : Int) : turnF x 11 = sft x 21 11 := or_comm _ _ _
theorem turn13 (x : Int) : turnF x 13 = sft x 19 13 := or_comm _ _ _
theorem turn17 (x : Int) : turnF x 17 = sft x 15 17 := or_comm _ _ _
theorem turn18 (x : Int) : turnF x 18 = sft x 14 18 := or_comm _ _ _
theorem turn19 (x : Int) : turnF x 19 = sft x 13 19 := or_comm _ _ _
theorem turn22 (x : Int) : turnF x 22 = sft x 10 22 := or_comm _ _ _
theorem turn25 (x : Int) : turnF x 25 = sft x 7 25 := or_comm _ _ _
theorem ad_eq (a b : Int) : ad a b = (a + b) % 4294967296 := IntKind.wrap_u32 _
theorem ad_assoc (a b c d e : Int) : ad (ad a b) (ad (ad c d) e) = ad (ad (ad (ad a b) c) d) e := by
  simp only [ad_eq]; omega
theorem or8 {x b : Int} (h0 : 0 ≤ b) (h1 : b < 256) : bitsOf .or .u32 (IntKind.u32.wrap (x * 2 ^ min 8 32)) (IntKind.u32.wrap b) = (x * 256 + b) % 4294967296 := by
  show IntKind.wrap .u32 (((BitVec.ofInt 32 (IntKind.wrap .u32 (x * 2 ^ 8)) ||| BitVec.ofInt 32 (IntKind.wrap .u32 b)).toNat : Nat) : Int) = _
  rw [BitVec.toNat_or, BitVec.toNat_ofInt, BitVec.toNat_ofInt]
  have e1 : (IntKind.wrap .u32 (x * 2 ^ 8) % ((2 ^ 32 : Nat) : Int)).toNat = 2 ^ 8 * ((x % 2 ^ 24).toNat) := by rw [IntKind.wrap_u32]; omega
  have e2 : (IntKind.wrap .u32 b % ((2 ^ 32 : Nat) : Int)).toNat = b.toNat := by rw [IntKind.wrap_u32]; omega
  rw [e1, e2, ← Nat.two_pow_add_eq_or_of_lt (by omega), IntKind.wrap_u32]
  omega
theorem or_add {a b : Int} {q k : Nat} (ha : a = 2 ^ k * (q : Int)) (h0 : 0 ≤ b) (hb : b < 2 ^ k) (hs : a + b < 4294967296) : bitsOf .or .u32 a b = a + b := by
  show IntKind.wrap .u32 (((BitVec.ofInt 32 a ||| BitVec.ofInt 32 b).toNat : Nat) : Int) = _
  rw [BitVec.toNat_or, BitVec.toNat_ofInt, BitVec.toNat_ofInt]
  have hq : a = ((2 ^ k * q : Nat) : Int) := by rw [ha]; push_cast; rfl
  have hb' : b.toNat < 2 ^ k := by
    have : ((b.toNat : Nat) : Int) < ((2 ^ k : Nat) : Int) := by rw [Int.toNat_of_nonneg h0]; push_cast; exact hb
    exact Int.ofNat_lt.1 this
  have e1 : (a % ((2 ^ 32 : Nat) : Int)).toNat = 2 ^ k * q := by
    rw [hq] at hs ⊢
    omega
  have e2 : (b % ((2 ^ 32 : Nat) : Int)).toNat = b.toNat := by
    have : 0 ≤ a := by rw [hq]; omega
    omega
  rw [e1, e2, ← Nat.two_pow_add_eq_or_of_lt hb', IntKind.wrap_u32]
  rw [hq] at hs ⊢
  omega
def word4 (m : List Int) (p : Nat) : Int := m.getD p 0 * 16777216 + m.getD (p + 1) 0 * 65536 + m.getD (p + 2) 0 * 256 + m.getD (p + 3) 0
theorem inB_get {l : List Int} (h : InB l) (j : Nat) : 0 ≤ l.getD j 0 ∧ l.getD j 0 < 256 := by
  by_cases hj : j < l.length
  · have e : l.getD j 0 = l[j] := by simp [List.getD, hj]
    rw [e]
    exact h _ (List.getElem_mem hj)
  · have e : l.getD j 0 = 0 := by simp [List.getD, List.getElem?_eq_none (Nat.le_of_not_lt hj)]
    rw [e]
    omega
theorem rfWord_eq {m : List Int} (hm : InB m) (p : Nat) : rfWord m p = word4 m p := by
  have h0 := inB_get hm p
  have h1 := inB_get hm (p + 1)
  have h2 := inB_get hm (p + 2)
  have h3 := inB_get hm (p + 3)
  unfold rfWord word4
  rw [show ((p : Int)).toNat = p from by omega, show ((p : Int) + 1).toNat = p + 1 from by omega, show ((p : Int) + 2).toNat = p + 2 from by omega, show ((p : Int) + 3).toNat = p + 3 from by omega]
  generalize m.getD p 0 = a at *
  generalize m.getD (p + 1) 0 = b at *
  generalize m.getD (p + 2) 0 = c at *
  generalize m.getD (p + 3) 0 = d at *
  have wa : IntKind.u32.wrap (IntKind.u32.wrap a * 2 ^ min 24 32) = 2 ^ 24 * ((a.toNat : Nat) : Int) := by
    rw [IntKind.wrap_u32, IntKind.wrap_u32, show min 24 32 = 24 from rfl]; omega
  have wb : IntKind.u32.wrap (IntKind.u32.wrap b * 2 ^ min 16 32) = b * 65536 := by
    rw [IntKind.wrap_u32, IntKind.wrap_u32, show min 16 32 = 16 from rfl]; omega
  have wc : IntKind.u32.wrap (IntKind.u32.wrap c * 2 ^ min 8 32) = c * 256 := by
    rw [IntKind.wrap_u32, IntKind.wrap_u32, show min 8 32 = 8 from rfl]; omega
  have wd : IntKind.u32.wrap d = d := by rw [IntKind.wrap_u32]; omega
  have s1 : bitsOf .or .u32 (2 ^ 24 * ((a.toNat : Nat) : Int)) (b * 65536) = 2 ^ 24 * ((a.toNat : Nat) : Int) + b * 65536 := or_add (q := a.toNat) (k := 24) rfl (by omega) (by omega) (by omega)
  have s2 : bitsOf .or .u32 (2 ^ 24 * ((a.toNat : Nat) : Int) + b * 65536) (c * 256) = 2 ^ 24 * ((a.toNat : Nat) : Int) + b * 65536 + c * 256 := or_add (q := a.toNat * 256 + b.toNat) (k := 16) (by omega) (by omega) (by omega) (by omega)
  have s3 : bitsOf .or .u32 (2 ^ 24 * ((a.toNat : Nat) : Int) + b * 65536 + c * 256) d = 2 ^ 24 * ((a.toNat : Nat) : Int) + b * 65536 + c * 256 + d := or_add (q := a.toNat * 65536 + b.toNat * 256 + c.toNat) (k := 8) (by omega) (by omega) (by omega) (by omega)
  rw [wa, wb, wc, wd, s1, s2, s3]
  omega
theorem getD_set_self {l : List Int} {i : Nat} (x : Int) (h : i < l.length) : (l.set i x).getD i 0 = x := by
  simp [List.getD_eq_getElem?_getD, h]
theorem getD_set_other {l : List Int} {i j : Nat} (x : Int) (h : i ≠ j) : (l.set i x).getD j 0 = l.getD j 0 := by
  simp [List.getD_eq_getElem?_getD, List.getElem?_set_ne h]
theorem tw1_len (p w : List Int) (i : Int) : ∀ j, (tw1 p w i j).length = w.length
  | 0 => rfl
  | j + 1 => by simp [tw1, tw1_len p w i j]
theorem tw1_other (p w : List Int) {i k : Nat} (h : i ≠ k) : ∀ j, (tw1 p w i j).getD k 0 = w.getD k 0
  | 0 => rfl
  | j + 1 => by
    unfold tw1
    rw [getD_set_other _ (by rw [Int.toNat_natCast]; exact h)]
    exact tw1_other p w h j
theorem tw1_self {p w : List Int} (hp : InB p) {i : Nat} (hi : i < w.length) (hw : w.getD i 0 = 0) : (tw1 p w i 4).getD i 0 = word4 p (4 * i) := by
  have h0 := inB_get hp (4 * i)
  have h1 := inB_get hp (4 * i + 1)
  have h2 := inB_get hp (4 * i + 2)
  have h3 := inB_get hp (4 * i + 3)
  have step : ∀ j : Nat, (tw1 p w i (j + 1)).getD i 0 = ((tw1 p w i j).getD i 0 * 256 + p.getD (4 * i + j) 0) % 4294967296 := by
    intro j
    have hb := inB_get hp (4 * i + j)
    show ((tw1 p w i j).set (i : Int).toNat _).getD i 0 = _
    rw [Int.toNat_natCast, getD_set_self _ (by rw [tw1_len]; exact hi), show (4 * (i : Int) + (j : Int)).toNat = 4 * i + j from by omega]
    exact or8 hb.1 hb.2
  rw [step 3, step 2, step 1, step 0]
  show ((((w.getD i 0 * 256 + _) % _ * 256 + _) % _ * 256 + _) % _ * 256 + _) % _ = _
  rw [hw]
  unfold word4
  rw [Nat.add_zero]
  omega
theorem tw0_spec {p : List Int} (hp : InB p) : ∀ i, i ≤ 16 → (tw0 p i).length = 64 ∧ (∀ j, j < i → (tw0 p i).getD j 0 = word4 p (4 * j)) ∧ ∀ j, i ≤ j → (tw0 p i).getD j 0 = 0
  | 0, _ => ⟨rfl, fun j h => by omega, fun j _ => by
      show (List.replicate 64 (0 : Int)).getD j 0 = 0
      rw [List.getD_eq_getElem?_getD, List.getElem?_replicate]
      split <;> rfl⟩
  | i + 1, hi => by
    obtain ⟨h1, h2, h3⟩ := tw0_spec hp i (by omega)
    refine ⟨by show (tw1 p (tw0 p i) i 4).length = 64; rw [tw1_len]; exact h1, fun j hj => ?_, fun j hj => ?_⟩
    · show (tw1 p (tw0 p i) i 4).getD j 0 = _
      by_cases e : j = i
      · subst e; exact tw1_self hp (by omega) (h3 j (Nat.le_refl _))
      · rw [tw1_other _ _ (Ne.symm e)]; exact h2 j (by omega)
    · show (tw1 p (tw0 p i) i 4).getD j 0 = _
      rw [tw1_other _ _ (by omega)]; exact h3 j (by omega)
theorem getD_app_l {a b : List Int} {j : Nat} (h : j < a.length) : (a ++ b).getD j 0 = a.getD j 0 := by
  rw [List.getD_eq_getElem?_getD, List.getElem?_append_left h, ← List.getD_eq_getElem?_getD]
theorem getD_app_at {a : List Int} {x : Int} {j : Nat} (h : j = a.length) : (a ++ [x]).getD j 0 = x := by
  subst h
  simp [List.getD_eq_getElem?_getD]
theorem rw4_get {m : List Int} (hm : InB m) (a : Nat) : ∀ i j, j < i → (rw4 m a i).getD j 0 = word4 m (a + 4 * j)
  | 0, j, h => by omega
  | i + 1, j, h => by
    show (rw4 m a i ++ [_]).getD j 0 = _
    by_cases e : j = i
    · subst e
      rw [getD_app_at (rw4_len m a j).symm, show ((a : Int) + 4 * (j : Int)) = ((a + 4 * j : Nat) : Int) from by omega, rfWord_eq hm]
    · rw [getD_app_l (by rw [rw4_len]; omega)]
      exact rw4_get hm a i j (by omega)
theorem tw2_len (w : List Int) : ∀ k, (tw2 w k).length = w.length
  | 0 => rfl
  | k + 1 => by simp [tw2, twStep, tw2_len w k]
theorem words_agree {W w : List Int} (hW : W.length = 64) (hw : w.length = 16) (h : ∀ j, j < 16 → W.getD j 0 = w.getD j 0) : ∀ k, k ≤ 48 → ∀ j, j < 16 + k → (tw2 W k).getD j 0 = (rw5 w k).getD j 0
  | 0, _, j, hj => h j hj
  | k + 1, hk, j, hj => by
    have ih := words_agree hW hw h k (by omega)
    have hl := rw5_len w k
    have hL := tw2_len W k
    show (twStep (tw2 W k) k).getD j 0 = (rw5 w k ++ [_]).getD j 0
    unfold twStep
    rw [show ((k : Int) + 16).toNat = k + 16 from by omega]
    by_cases e : j = k + 16
    · subst e
      rw [getD_set_self _ (by omega), getD_app_at (by omega)]
      unfold rw5W
      rw [turn7, turn18, turn17, turn19]
      rw [show ((k : Int)).toNat = k from by omega, show ((k : Int) + 1).toNat = k + 1 from by omega, show ((k : Int) + 9).toNat = k + 9 from by omega, show ((k : Int) + 14).toNat = k + 14 from by omega,
        show (16 + (k : Int) - 16).toNat = k from by omega, show (16 + (k : Int) - 15).toNat = k + 1 from by omega, show (16 + (k : Int) - 7).toNat = k + 9 from by omega, show (16 + (k : Int) - 2).toNat = k + 14 from by omega]
      rw [ih k (by omega), ih (k + 1) (by omega), ih (k + 9) (by omega), ih (k + 14) (by omega)]
    · rw [getD_set_other _ (Ne.symm e), getD_app_l (by omega)]
      exact ih j (by omega)
theorem rounds_agree {W w : List Int} (h : ∀ j, j < 64 → W.getD j 0 = w.getD j 0) (v : List Int) : ∀ i, i ≤ 64 → tv3 W v i = rv6 rootsL w v i
  | 0, _ => rfl
  | i + 1, hi => by
    have ih := rounds_agree h v i (by omega)
    show tvStep W (tv3 W v i) i = rvStep rootsL w (rv6 rootsL w v i) i
    rw [ih]
    generalize rv6 rootsL w v i = u
    have hT : tvT W u i = rvT rootsL w u i := by
      unfold tvT rvT
      rw [turn6, turn11, turn25, ad_assoc, Int.toNat_natCast, h i (by omega)]
    have hU : tvU u = rvU u := by
      unfold tvU rvU
      rw [turn2, turn13, turn22]
    unfold tvStep rvStep
    rw [hT, hU]
theorem word4_block {m : List Int} {a j : Nat} (hj : j < 16) : word4 ((m.drop a).take 64) (4 * j) = word4 m (a + 4 * j) := by
  have hg : ∀ i, i < 64 → ((m.drop a).take 64).getD i 0 = m.getD (a + i) 0 := by
    intro i hi
    simp only [List.getD_eq_getElem?_getD, List.getElem?_take, List.getElem?_drop, if_pos hi]
  unfold word4
  rw [hg _ (by omega), hg _ (by omega), hg _ (by omega), hg _ (by omega)]
  simp only [Nat.add_assoc]
theorem inB_sub {m : List Int} (hm : InB m) (a n : Nat) : InB ((m.drop a).take n) := fun x hx => hm x (List.mem_of_mem_drop (List.mem_of_mem_take hx))
theorem block_same {m : List Int} (hm : InB m) (a : Nat) (h : List Int) : rfBlock rootsL h m a = takeF h ((m.drop a).take 64) := by
  obtain ⟨t1, t2, t3⟩ := tw0_spec (inB_sub hm a 64) 16 (Nat.le_refl _)
  have h16 : ∀ j, j < 16 → (tw0 ((m.drop a).take 64) 16).getD j 0 = (rw4 m a 16).getD j 0 := fun j hj => by
    rw [t2 j hj, rw4_get hm a 16 j hj, word4_block hj]
  have h64 := words_agree t1 (rw4_len m a 16) h16 48 (Nat.le_refl _)
  unfold rfBlock takeF
  rw [rounds_agree (w := rw5 (rw4 m a 16) 48) (fun j hj => h64 j (by omega)) h 64 (Nat.le_refl _)]
theorem rfH_eat {m : List Int} (hm : InB m) (h : List Int) : ∀ n, rfH rootsL h m n = eat h m n
  | 0 => rfl
  | n + 1 => by
    show rfBlock rootsL (rfH rootsL h m n) m (64 * (n : Int)) = takeF (eat h m n) ((m.drop (64 * n)).take 64)
    rw [rfH_eat hm h n, show (64 * (n : Int)) = ((64 * n : Nat) : Int) from by omega, block_same hm]
end Go.Num

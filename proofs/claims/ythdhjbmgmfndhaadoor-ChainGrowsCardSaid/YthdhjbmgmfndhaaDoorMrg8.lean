/- Several texts put together: S1 S2 S3 S4 S5 S6 S7 S8 S9 Ch1 Ch2. -/
import Derived.Test.YthdhjbmgmfndhaaDoorMrg7
namespace Go.Num
open Go.Abs Go.Proofs Go.Shelf
theorem rot_run (x k : Int)
 (h1 : ((0 : Int) ≤ (bitsOf Go.BinOp.and Go.IntKind.u64 (Go.IntKind.wrap Go.IntKind.u64 k) (31 : Int))))
 (h2 : ((0 : Int) ≤ (Go.IntKind.wrap Go.IntKind.u64 ((32 : Int) - (bitsOf Go.BinOp.and Go.IntKind.u64 (Go.IntKind.wrap Go.IntKind.u64 k) (31 : Int)))))) :
 ∃ ps, runF Tryd.prog DS [] 100 Tryd.f71 [.one (.int .u32 false x), .one (.int .i64 false k)] [] = some ((AV.v (A0.one (Part.int Go.IntKind.u32 ((false && (false && true)) && (false && false)) (bitsOf Go.BinOp.or Go.IntKind.u32 (Go.IntKind.wrap Go.IntKind.u32 (x * ((2 : Int) ^ (min (Int.toNat (bitsOf Go.BinOp.and Go.IntKind.u64 (Go.IntKind.wrap Go.IntKind.u64 k) (31 : Int))) (32 : Nat))))) (Int.fdiv x ((2 : Int) ^ (min (Int.toNat (Go.IntKind.wrap Go.IntKind.u64 ((32 : Int) - (bitsOf Go.BinOp.and Go.IntKind.u64 (Go.IntKind.wrap Go.IntKind.u64 k) (31 : Int))))) (32 : Nat)))))))), ps) ∧ AllQ ps := ⟨_, by kernel_rfl, qc h1 (qc h2 (qn))⟩
def rotl (x k : Int) : Int := bitsOf .or .u32 (IntKind.u32.wrap (x * 2 ^ min (bitsOf .and .u64 (IntKind.u64.wrap k) 31).toNat 32)) (x.fdiv (2 ^ min (IntKind.u64.wrap (32 - bitsOf .and .u64 (IntKind.u64.wrap k) 31)).toNat 32))
def rotD : FnD DS
  | [.one (.int .u32 _ x), .one (.int .i64 _ k)] => some (.v (.one (.int .u32 false (rotl x k))), [0 ≤ bitsOf .and .u64 (IntKind.u64.wrap k) 31, 0 ≤ IntKind.u64.wrap (32 - bitsOf .and .u64 (IntKind.u64.wrap k) 31)])
  | _ => none
theorem rotl_ok : FnOK Tryd.prog DS 71 rotD := by
  refine fnOK_of gam_nil mixed Tryd.func71 (enters_of Tryd.func71 (by kernel_rfl) rfl) ?_
  intro xs r ps h hps
  unfold rotD at h
  split at h
  · rename_i _ x _ k
    simp only [Option.some.injEq, Prod.mk.injEq] at h
    obtain ⟨rfl, rfl⟩ := h
    obtain ⟨qs, h1, h2⟩ := rot_run x k (hps _ (by simp)) (hps _ (by simp))
    exact ⟨_, _, _, _, _, fun w vs hx => args2 int_lit int_lit hx, h1, h2, fun E v hv => hv⟩
  · cases h
noncomputable def gamT : Gam DS := [(71, .fn rotD)]
theorem gamT_ok : GamOK Tryd.prog DS gamT := gam_cons rotl_ok gam_nil
def hashP (s r : List Int) (n : Int) : List (Part DS.τ) := [.arr .u32 8 s, .arr .u8 64 r, .int .i64 false n]
def tkSn (s r : List Int) (n : Int) (p w : List Int) (sl : List (Nat × AV DS.τ)) : Sn DS.τ where
  slots := [(0, .v (.one (.ref 0 0))), (3, .v (.one (.ref 1 0))), (4, .v (.one (.ref 2 0)))] ++ sl
  boxes := [(0, .fixed 105 (hashP s r n)), (1, .fixed 103 [.arr .u8 64 p]), (2, .fixed 125 [.arr .u32 64 w])]
  nt := 189
  np := 1
def tk3Sn (s r : List Int) (n : Int) (w v : List Int) (sl : List (Nat × AV DS.τ)) : Sn DS.τ where
  slots := [(0, .v (.one (.ref 0 0))), (4, .v (.one (.ref 2 0))), (12, .v (.one (.ref 3 0)))] ++ sl
  boxes := [(0, .fixed 105 (hashP s r n)), (2, .fixed 125 [.arr .u32 64 w]), (3, .fixed 102 [.arr .u32 8 v])]
  nt := 189
  np := 1
def slI (t : Nat) (i : Int) : Nat × AV DS.τ := (t, .v (.one (.int .i64 false i)))
theorem t1_round (s r p w w' : List Int) (n i : Int) (j : Nat)
 (h1 : ((decide (((j : Nat) : Int) < (4 : Int))) = true))
 (h2 : ((0 : Int) ≤ i))
 (h3 : (i < (((64 : Nat) : Nat) : Int)))
 (h4 : (InI64 ((4 : Int) * i)))
 (h5 : (InI64 (((4 : Int) * i) + ((j : Nat) : Int))))
 (h6 : ((0 : Int) ≤ (((4 : Int) * i) + ((j : Nat) : Int))))
 (h7 : ((((4 : Int) * i) + ((j : Nat) : Int)) < (((64 : Nat) : Nat) : Int)))
 (h8 : (InI64 (((j : Nat) : Int) + (1 : Int))))
 (h9 : ((List.set w (Int.toNat i) (bitsOf Go.BinOp.or Go.IntKind.u32 (Go.IntKind.wrap Go.IntKind.u32 ((List.getD w (Int.toNat i) (0 : Int)) * ((2 : Int) ^ (min (8 : Nat) (32 : Nat))))) (Go.IntKind.wrap Go.IntKind.u32 (List.getD p (Int.toNat (((4 : Int) * i) + ((j : Nat) : Int))) (0 : Int))))) = w')) :
 ∃ ps, stepPs Tryd.prog DS gamT 100 (bodyN Tryd.f59 1) 100 (tkSn s r n p w [slI 23 i, slI 5 i, slI 26 j]).st [.is true] .normal (tkSn s r n p w' [slI 23 i, slI 5 i, slI 26 ((j : Int) + 1)]) = some ps ∧ AllQ ps := ⟨_, by kernel_rfl, qc h1 (qc h2 (qc h3 (qc h4 (qc h5 (qc h6 (qc h7 (qc h2 (qc h3 (qc h8 (qc (Eq.refl i) (qc (Eq.refl i) (qc (Eq.refl ((((j : Nat) : Int) + (1 : Int)))) (qc (Eq.refl s) (qc (Eq.refl r) (qc (Eq.refl n) (qc (Eq.refl p) (qc h9 (qn))))))))))))))))))⟩
theorem t1_exit (s r p w : List Int) (n i : Int) (j : Nat)
 (h1 : ((decide (((j : Nat) : Int) < (4 : Int))) = false)) :
 ∃ ps, stepPs Tryd.prog DS gamT 100 (bodyN Tryd.f59 1) 100 (tkSn s r n p w [slI 23 i, slI 5 i, slI 26 j]).st [.is false] (.exit 2) (tkSn s r n p w [slI 23 i]) = some ps ∧ AllQ ps := ⟨_, by kernel_rfl, qc h1 (qc (Eq.refl i) (qc (Eq.refl s) (qc (Eq.refl r) (qc (Eq.refl n) (qc (Eq.refl p) (qc (Eq.refl w) (qn)))))))⟩
theorem t0_round (s r p w w1 : List Int) (n : Int) (i : Nat)
 (h1 : ((decide (((i : Nat) : Int) < (16 : Int))) = true))
 (h2 : SumOK Tryd.prog DS (bodyN Tryd.f59 1) (loopL DS (tkSn s r n p w [slI 23 i, slI 5 i, slI 26 (0 : Nat)]) (.exit 2) (tkSn s r n p w1 [slI 23 i])))
 (h3 : (InI64 (((i : Nat) : Int) + (1 : Int)))) :
 ∃ ps, stepPs Tryd.prog DS gamT 100 (bodyN Tryd.f59 0) 100 (tkSn s r n p w [slI 23 i]).st [.is true, .loop (loopL DS (tkSn s r n p w [slI 23 i, slI 5 i, slI 26 (0 : Nat)]) (.exit 2) (tkSn s r n p w1 [slI 23 i]))] .normal (tkSn s r n p w1 [slI 23 ((i : Int) + 1)]) = some ps ∧ AllQ ps := ⟨_, by kernel_rfl, qc h1 (qc h2 (qc (Eq.refl (((i : Nat) : Int))) (qc (Eq.refl (((i : Nat) : Int))) (qc (show ((0 : Int) = (((0 : Nat) : Nat) : Int)) from by decide) (qc (Eq.refl s) (qc (Eq.refl r) (qc (Eq.refl n) (qc (Eq.refl p) (qc (Eq.refl w) (qc h3 (qc (Eq.refl ((((i : Nat) : Int) + (1 : Int)))) (qc (Eq.refl s) (qc (Eq.refl r) (qc (Eq.refl n) (qc (Eq.refl p) (qc (Eq.refl w1) (qn)))))))))))))))))⟩
theorem t0_exit (s r p w : List Int) (n : Int) (i : Nat)
 (h1 : ((decide (((i : Nat) : Int) < (16 : Int))) = false)) :
 ∃ ps, stepPs Tryd.prog DS gamT 100 (bodyN Tryd.f59 0) 100 (tkSn s r n p w [slI 23 i]).st [.is false] (.exit 0) (tkSn s r n p w []) = some ps ∧ AllQ ps := ⟨_, by kernel_rfl, qc h1 (qc (Eq.refl s) (qc (Eq.refl r) (qc (Eq.refl n) (qc (Eq.refl p) (qc (Eq.refl w) (qn))))))⟩
theorem t2_round (s r p w w' : List Int) (n : Int) (i : Nat)
 (h1 : ((decide (((i : Nat) : Int) < (48 : Int))) = true))
 (h2 : (InI64 (((i : Nat) : Int) + (1 : Int))))
 (h3 : ((0 : Int) ≤ (((i : Nat) : Int) + (1 : Int))))
 (h4 : ((((i : Nat) : Int) + (1 : Int)) < (((64 : Nat) : Nat) : Int)))
 (h5 : (InI64 (((i : Nat) : Int) + (14 : Int))))
 (h6 : ((0 : Int) ≤ (((i : Nat) : Int) + (14 : Int))))
 (h7 : ((((i : Nat) : Int) + (14 : Int)) < (((64 : Nat) : Nat) : Int)))
 (h8 : (InI64 (((i : Nat) : Int) + (16 : Int))))
 (h9 : ((0 : Int) ≤ ((i : Nat) : Int)))
 (h10 : (((i : Nat) : Int) < (((64 : Nat) : Nat) : Int)))
 (h11 : (InI64 (((i : Nat) : Int) + (9 : Int))))
 (h12 : ((0 : Int) ≤ (((i : Nat) : Int) + (9 : Int))))
 (h13 : ((((i : Nat) : Int) + (9 : Int)) < (((64 : Nat) : Nat) : Int)))
 (h14 : ((0 : Int) ≤ (((i : Nat) : Int) + (16 : Int))))
 (h15 : ((((i : Nat) : Int) + (16 : Int)) < (((64 : Nat) : Nat) : Int)))
 (h16 : ((List.set w (Int.toNat (((i : Nat) : Int) + (16 : Int))) (Go.IntKind.wrap Go.IntKind.u32 ((Go.IntKind.wrap Go.IntKind.u32 ((Go.IntKind.wrap Go.IntKind.u32 ((List.getD w (Int.toNat ((i : Nat) : Int)) (0 : Int)) + (bitsOf Go.BinOp.xor Go.IntKind.u32 (bitsOf Go.BinOp.xor Go.IntKind.u32 (bitsOf Go.BinOp.or Go.IntKind.u32 (Go.IntKind.wrap Go.IntKind.u32 ((List.getD w (Int.toNat (((i : Nat) : Int) + (1 : Int))) (0 : Int)) * ((2 : Int) ^ (min (25 : Nat) (32 : Nat))))) (Int.fdiv (List.getD w (Int.toNat (((i : Nat) : Int) + (1 : Int))) (0 : Int)) ((2 : Int) ^ (min (7 : Nat) (32 : Nat))))) (bitsOf Go.BinOp.or Go.IntKind.u32 (Go.IntKind.wrap Go.IntKind.u32 ((List.getD w (Int.toNat (((i : Nat) : Int) + (1 : Int))) (0 : Int)) * ((2 : Int) ^ (min (14 : Nat) (32 : Nat))))) (Int.fdiv (List.getD w (Int.toNat (((i : Nat) : Int) + (1 : Int))) (0 : Int)) ((2 : Int) ^ (min (18 : Nat) (32 : Nat)))))) (Int.fdiv (List.getD w (Int.toNat (((i : Nat) : Int) + (1 : Int))) (0 : Int)) ((2 : Int) ^ (min (3 : Nat) (32 : Nat))))))) + (List.getD w (Int.toNat (((i : Nat) : Int) + (9 : Int))) (0 : Int)))) + (bitsOf Go.BinOp.xor Go.IntKind.u32 (bitsOf Go.BinOp.xor Go.IntKind.u32 (bitsOf Go.BinOp.or Go.IntKind.u32 (Go.IntKind.wrap Go.IntKind.u32 ((List.getD w (Int.toNat (((i : Nat) : Int) + (14 : Int))) (0 : Int)) * ((2 : Int) ^ (min (15 : Nat) (32 : Nat))))) (Int.fdiv (List.getD w (Int.toNat (((i : Nat) : Int) + (14 : Int))) (0 : Int)) ((2 : Int) ^ (min (17 : Nat) (32 : Nat))))) (bitsOf Go.BinOp.or Go.IntKind.u32 (Go.IntKind.wrap Go.IntKind.u32 ((List.getD w (Int.toNat (((i : Nat) : Int) + (14 : Int))) (0 : Int)) * ((2 : Int) ^ (min (13 : Nat) (32 : Nat))))) (Int.fdiv (List.getD w (Int.toNat (((i : Nat) : Int) + (14 : Int))) (0 : Int)) ((2 : Int) ^ (min (19 : Nat) (32 : Nat)))))) (Int.fdiv (List.getD w (Int.toNat (((i : Nat) : Int) + (14 : Int))) (0 : Int)) ((2 : Int) ^ (min (10 : Nat) (32 : Nat)))))))) = w')) :
 ∃ ps, stepPs Tryd.prog DS gamT 100 (bodyN Tryd.f59 2) 100 (tkSn s r n p w [slI 45 i]).st [.is true] .normal (tkSn s r n p w' [slI 45 ((i : Int) + 1)]) = some ps ∧ AllQ ps := ⟨_, by kernel_rfl, qc h1 (qc h2 (qc h3 (qc h4 (qc h5 (qc h6 (qc h7 (qc (show ((0 : Int) ≤ (bitsOf Go.BinOp.and Go.IntKind.u64 (Go.IntKind.wrap Go.IntKind.u64 (-(7 : Int))) (31 : Int))) from by decide) (qc (show ((0 : Int) ≤ (Go.IntKind.wrap Go.IntKind.u64 ((32 : Int) - (bitsOf Go.BinOp.and Go.IntKind.u64 (Go.IntKind.wrap Go.IntKind.u64 (-(7 : Int))) (31 : Int))))) from by decide) (qc (show ((0 : Int) ≤ (bitsOf Go.BinOp.and Go.IntKind.u64 (Go.IntKind.wrap Go.IntKind.u64 (-(18 : Int))) (31 : Int))) from by decide) (qc (show ((0 : Int) ≤ (Go.IntKind.wrap Go.IntKind.u64 ((32 : Int) - (bitsOf Go.BinOp.and Go.IntKind.u64 (Go.IntKind.wrap Go.IntKind.u64 (-(18 : Int))) (31 : Int))))) from by decide) (qc (show ((0 : Int) ≤ (bitsOf Go.BinOp.and Go.IntKind.u64 (Go.IntKind.wrap Go.IntKind.u64 (-(17 : Int))) (31 : Int))) from by decide) (qc (show ((0 : Int) ≤ (Go.IntKind.wrap Go.IntKind.u64 ((32 : Int) - (bitsOf Go.BinOp.and Go.IntKind.u64 (Go.IntKind.wrap Go.IntKind.u64 (-(17 : Int))) (31 : Int))))) from by decide) (qc (show ((0 : Int) ≤ (bitsOf Go.BinOp.and Go.IntKind.u64 (Go.IntKind.wrap Go.IntKind.u64 (-(19 : Int))) (31 : Int))) from by decide) (qc (show ((0 : Int) ≤ (Go.IntKind.wrap Go.IntKind.u64 ((32 : Int) - (bitsOf Go.BinOp.and Go.IntKind.u64 (Go.IntKind.wrap Go.IntKind.u64 (-(19 : Int))) (31 : Int))))) from by decide) (qc h8 (qc h9 (qc h10 (qc h11 (qc h12 (qc h13 (qc h14 (qc h15 (qc h2 (qc (Eq.refl ((((i : Nat) : Int) + (1 : Int)))) (qc (Eq.refl s) (qc (Eq.refl r) (qc (Eq.refl n) (qc (Eq.refl p) (qc h16 (qn))))))))))))))))))))))))))))))⟩
theorem t2_exit (s r p w : List Int) (n : Int) (i : Nat)
 (h1 : ((decide (((i : Nat) : Int) < (48 : Int))) = false)) :
 ∃ ps, stepPs Tryd.prog DS gamT 100 (bodyN Tryd.f59 2) 100 (tkSn s r n p w [slI 45 i]).st [.is false] (.exit 4) (tkSn s r n p w []) = some ps ∧ AllQ ps := ⟨_, by kernel_rfl, qc h1 (qc (Eq.refl s) (qc (Eq.refl r) (qc (Eq.refl n) (qc (Eq.refl p) (qc (Eq.refl w) (qn))))))⟩
theorem t3_round (s r w v v' : List Int) (n : Int) (i : Nat)
 (h1 : ((decide (((i : Nat) : Int) < (64 : Int))) = true))
 (h2 : ((0 : Int) ≤ ((i : Nat) : Int)))
 (h3 : (((i : Nat) : Int) < (((64 : Nat) : Nat) : Int)))
 (h4 : (InI64 (((i : Nat) : Int) + (1 : Int))))
 (h5 : (([(Go.IntKind.wrap Go.IntKind.u32 ((Go.IntKind.wrap Go.IntKind.u32 ((Go.IntKind.wrap Go.IntKind.u32 ((List.getD v (7 : Nat) (0 : Int)) + (bitsOf Go.BinOp.xor Go.IntKind.u32 (bitsOf Go.BinOp.xor Go.IntKind.u32 (bitsOf Go.BinOp.or Go.IntKind.u32 (Go.IntKind.wrap Go.IntKind.u32 ((List.getD v (4 : Nat) (0 : Int)) * ((2 : Int) ^ (min (26 : Nat) (32 : Nat))))) (Int.fdiv (List.getD v (4 : Nat) (0 : Int)) ((2 : Int) ^ (min (6 : Nat) (32 : Nat))))) (bitsOf Go.BinOp.or Go.IntKind.u32 (Go.IntKind.wrap Go.IntKind.u32 ((List.getD v (4 : Nat) (0 : Int)) * ((2 : Int) ^ (min (21 : Nat) (32 : Nat))))) (Int.fdiv (List.getD v (4 : Nat) (0 : Int)) ((2 : Int) ^ (min (11 : Nat) (32 : Nat)))))) (bitsOf Go.BinOp.or Go.IntKind.u32 (Go.IntKind.wrap Go.IntKind.u32 ((List.getD v (4 : Nat) (0 : Int)) * ((2 : Int) ^ (min (7 : Nat) (32 : Nat))))) (Int.fdiv (List.getD v (4 : Nat) (0 : Int)) ((2 : Int) ^ (min (25 : Nat) (32 : Nat)))))))) + (Go.IntKind.wrap Go.IntKind.u32 ((Go.IntKind.wrap Go.IntKind.u32 ((bitsOf Go.BinOp.xor Go.IntKind.u32 (bitsOf Go.BinOp.and Go.IntKind.u32 (List.getD v (4 : Nat) (0 : Int)) (List.getD v (5 : Nat) (0 : Int))) (bitsOf Go.BinOp.and Go.IntKind.u32 (bitsOf Go.BinOp.xor Go.IntKind.u32 (if (false = true) then (-(1 : Int)) else (if (false = true) then (((2 : Int) ^ ((32 : Nat) - (1 : Nat))) - (1 : Int)) else (((2 : Int) ^ (32 : Nat)) - (1 : Int)))) (List.getD v (4 : Nat) (0 : Int))) (List.getD v (6 : Nat) (0 : Int)))) + (List.getD ([(1116352408 : Int), (1899447441 : Int), (3049323471 : Int), (3921009573 : Int), (961987163 : Int), (1508970993 : Int), (2453635748 : Int), (2870763221 : Int), (3624381080 : Int), (310598401 : Int), (607225278 : Int), (1426881987 : Int), (1925078388 : Int), (2162078206 : Int), (2614888103 : Int), (3248222580 : Int), (3835390401 : Int), (4022224774 : Int), (264347078 : Int), (604807628 : Int), (770255983 : Int), (1249150122 : Int), (1555081692 : Int), (1996064986 : Int), (2554220882 : Int), (2821834349 : Int), (2952996808 : Int), (3210313671 : Int), (3336571891 : Int), (3584528711 : Int), (113926993 : Int), (338241895 : Int), (666307205 : Int), (773529912 : Int), (1294757372 : Int), (1396182291 : Int), (1695183700 : Int), (1986661051 : Int), (2177026350 : Int), (2456956037 : Int), (2730485921 : Int), (2820302411 : Int), (3259730800 : Int), (3345764771 : Int), (3516065817 : Int), (3600352804 : Int), (4094571909 : Int), (275423344 : Int), (430227734 : Int), (506948616 : Int), (659060556 : Int), (883997877 : Int), (958139571 : Int), (1322822218 : Int), (1537002063 : Int), (1747873779 : Int), (1955562222 : Int), (2024104815 : Int), (2227730452 : Int), (2361852424 : Int), (2428436474 : Int), (2756734187 : Int), (3204031479 : Int), (3329325298 : Int)] : List Int) (Int.toNat ((i : Nat) : Int)) (0 : Int)))) + (List.getD w (Int.toNat ((i : Nat) : Int)) (0 : Int)))))) + (Go.IntKind.wrap Go.IntKind.u32 ((bitsOf Go.BinOp.xor Go.IntKind.u32 (bitsOf Go.BinOp.xor Go.IntKind.u32 (bitsOf Go.BinOp.or Go.IntKind.u32 (Go.IntKind.wrap Go.IntKind.u32 ((List.getD v (0 : Nat) (0 : Int)) * ((2 : Int) ^ (min (30 : Nat) (32 : Nat))))) (Int.fdiv (List.getD v (0 : Nat) (0 : Int)) ((2 : Int) ^ (min (2 : Nat) (32 : Nat))))) (bitsOf Go.BinOp.or Go.IntKind.u32 (Go.IntKind.wrap Go.IntKind.u32 ((List.getD v (0 : Nat) (0 : Int)) * ((2 : Int) ^ (min (19 : Nat) (32 : Nat))))) (Int.fdiv (List.getD v (0 : Nat) (0 : Int)) ((2 : Int) ^ (min (13 : Nat) (32 : Nat)))))) (bitsOf Go.BinOp.or Go.IntKind.u32 (Go.IntKind.wrap Go.IntKind.u32 ((List.getD v (0 : Nat) (0 : Int)) * ((2 : Int) ^ (min (10 : Nat) (32 : Nat))))) (Int.fdiv (List.getD v (0 : Nat) (0 : Int)) ((2 : Int) ^ (min (22 : Nat) (32 : Nat)))))) + (bitsOf Go.BinOp.xor Go.IntKind.u32 (bitsOf Go.BinOp.xor Go.IntKind.u32 (bitsOf Go.BinOp.and Go.IntKind.u32 (List.getD v (0 : Nat) (0 : Int)) (List.getD v (1 : Nat) (0 : Int))) (bitsOf Go.BinOp.and Go.IntKind.u32 (List.getD v (0 : Nat) (0 : Int)) (List.getD v (2 : Nat) (0 : Int)))) (bitsOf Go.BinOp.and Go.IntKind.u32 (List.getD v (1 : Nat) (0 : Int)) (List.getD v (2 : Nat) (0 : Int)))))))), (List.getD v (0 : Nat) (0 : Int)), (List.getD v (1 : Nat) (0 : Int)), (List.getD v (2 : Nat) (0 : Int)), (Go.IntKind.wrap Go.IntKind.u32 ((List.getD v (3 : Nat) (0 : Int)) + (Go.IntKind.wrap Go.IntKind.u32 ((Go.IntKind.wrap Go.IntKind.u32 ((List.getD v (7 : Nat) (0 : Int)) + (bitsOf Go.BinOp.xor Go.IntKind.u32 (bitsOf Go.BinOp.xor Go.IntKind.u32 (bitsOf Go.BinOp.or Go.IntKind.u32 (Go.IntKind.wrap Go.IntKind.u32 ((List.getD v (4 : Nat) (0 : Int)) * ((2 : Int) ^ (min (26 : Nat) (32 : Nat))))) (Int.fdiv (List.getD v (4 : Nat) (0 : Int)) ((2 : Int) ^ (min (6 : Nat) (32 : Nat))))) (bitsOf Go.BinOp.or Go.IntKind.u32 (Go.IntKind.wrap Go.IntKind.u32 ((List.getD v (4 : Nat) (0 : Int)) * ((2 : Int) ^ (min (21 : Nat) (32 : Nat))))) (Int.fdiv (List.getD v (4 : Nat) (0 : Int)) ((2 : Int) ^ (min (11 : Nat) (32 : Nat)))))) (bitsOf Go.BinOp.or Go.IntKind.u32 (Go.IntKind.wrap Go.IntKind.u32 ((List.getD v (4 : Nat) (0 : Int)) * ((2 : Int) ^ (min (7 : Nat) (32 : Nat))))) (Int.fdiv (List.getD v (4 : Nat) (0 : Int)) ((2 : Int) ^ (min (25 : Nat) (32 : Nat)))))))) + (Go.IntKind.wrap Go.IntKind.u32 ((Go.IntKind.wrap Go.IntKind.u32 ((bitsOf Go.BinOp.xor Go.IntKind.u32 (bitsOf Go.BinOp.and Go.IntKind.u32 (List.getD v (4 : Nat) (0 : Int)) (List.getD v (5 : Nat) (0 : Int))) (bitsOf Go.BinOp.and Go.IntKind.u32 (bitsOf Go.BinOp.xor Go.IntKind.u32 (if (false = true) then (-(1 : Int)) else (if (false = true) then (((2 : Int) ^ ((32 : Nat) - (1 : Nat))) - (1 : Int)) else (((2 : Int) ^ (32 : Nat)) - (1 : Int)))) (List.getD v (4 : Nat) (0 : Int))) (List.getD v (6 : Nat) (0 : Int)))) + (List.getD ([(1116352408 : Int), (1899447441 : Int), (3049323471 : Int), (3921009573 : Int), (961987163 : Int), (1508970993 : Int), (2453635748 : Int), (2870763221 : Int), (3624381080 : Int), (310598401 : Int), (607225278 : Int), (1426881987 : Int), (1925078388 : Int), (2162078206 : Int), (2614888103 : Int), (3248222580 : Int), (3835390401 : Int), (4022224774 : Int), (264347078 : Int), (604807628 : Int), (770255983 : Int), (1249150122 : Int), (1555081692 : Int), (1996064986 : Int), (2554220882 : Int), (2821834349 : Int), (2952996808 : Int), (3210313671 : Int), (3336571891 : Int), (3584528711 : Int), (113926993 : Int), (338241895 : Int), (666307205 : Int), (773529912 : Int), (1294757372 : Int), (1396182291 : Int), (1695183700 : Int), (1986661051 : Int), (2177026350 : Int), (2456956037 : Int), (2730485921 : Int), (2820302411 : Int), (3259730800 : Int), (3345764771 : Int), (3516065817 : Int), (3600352804 : Int), (4094571909 : Int), (275423344 : Int), (430227734 : Int), (506948616 : Int), (659060556 : Int), (883997877 : Int), (958139571 : Int), (1322822218 : Int), (1537002063 : Int), (1747873779 : Int), (1955562222 : Int), (2024104815 : Int), (2227730452 : Int), (2361852424 : Int), (2428436474 : Int), (2756734187 : Int), (3204031479 : Int), (3329325298 : Int)] : List Int) (Int.toNat ((i : Nat) : Int)) (0 : Int)))) + (List.getD w (Int.toNat ((i : Nat) : Int)) (0 : Int)))))))), (List.getD v (4 : Nat) (0 : Int)), (List.getD v (5 : Nat) (0 : Int)), (List.getD v (6 : Nat) (0 : Int))] : List Int) = v')) :
 ∃ ps, stepPs Tryd.prog DS gamT 100 (bodyN Tryd.f59 3) 100 (tk3Sn s r n w v [slI 92 i]).st [.is true] .normal (tk3Sn s r n w v' [slI 92 ((i : Int) + 1)]) = some ps ∧ AllQ ps := ⟨_, by kernel_rfl, qc h1 (qc (show ((0 : Int) ≤ (bitsOf Go.BinOp.and Go.IntKind.u64 (Go.IntKind.wrap Go.IntKind.u64 (-(6 : Int))) (31 : Int))) from by decide) (qc (show ((0 : Int) ≤ (Go.IntKind.wrap Go.IntKind.u64 ((32 : Int) - (bitsOf Go.BinOp.and Go.IntKind.u64 (Go.IntKind.wrap Go.IntKind.u64 (-(6 : Int))) (31 : Int))))) from by decide) (qc (show ((0 : Int) ≤ (bitsOf Go.BinOp.and Go.IntKind.u64 (Go.IntKind.wrap Go.IntKind.u64 (-(11 : Int))) (31 : Int))) from by decide) (qc (show ((0 : Int) ≤ (Go.IntKind.wrap Go.IntKind.u64 ((32 : Int) - (bitsOf Go.BinOp.and Go.IntKind.u64 (Go.IntKind.wrap Go.IntKind.u64 (-(11 : Int))) (31 : Int))))) from by decide) (qc (show ((0 : Int) ≤ (bitsOf Go.BinOp.and Go.IntKind.u64 (Go.IntKind.wrap Go.IntKind.u64 (-(25 : Int))) (31 : Int))) from by decide) (qc (show ((0 : Int) ≤ (Go.IntKind.wrap Go.IntKind.u64 ((32 : Int) - (bitsOf Go.BinOp.and Go.IntKind.u64 (Go.IntKind.wrap Go.IntKind.u64 (-(25 : Int))) (31 : Int))))) from by decide) (qc h2 (qc h3 (qc h2 (qc h3 (qc (show ((0 : Int) ≤ (bitsOf Go.BinOp.and Go.IntKind.u64 (Go.IntKind.wrap Go.IntKind.u64 (-(2 : Int))) (31 : Int))) from by decide) (qc (show ((0 : Int) ≤ (Go.IntKind.wrap Go.IntKind.u64 ((32 : Int) - (bitsOf Go.BinOp.and Go.IntKind.u64 (Go.IntKind.wrap Go.IntKind.u64 (-(2 : Int))) (31 : Int))))) from by decide) (qc (show ((0 : Int) ≤ (bitsOf Go.BinOp.and Go.IntKind.u64 (Go.IntKind.wrap Go.IntKind.u64 (-(13 : Int))) (31 : Int))) from by decide) (qc (show ((0 : Int) ≤ (Go.IntKind.wrap Go.IntKind.u64 ((32 : Int) - (bitsOf Go.BinOp.and Go.IntKind.u64 (Go.IntKind.wrap Go.IntKind.u64 (-(13 : Int))) (31 : Int))))) from by decide) (qc (show ((0 : Int) ≤ (bitsOf Go.BinOp.and Go.IntKind.u64 (Go.IntKind.wrap Go.IntKind.u64 (-(22 : Int))) (31 : Int))) from by decide) (qc (show ((0 : Int) ≤ (Go.IntKind.wrap Go.IntKind.u64 ((32 : Int) - (bitsOf Go.BinOp.and Go.IntKind.u64 (Go.IntKind.wrap Go.IntKind.u64 (-(22 : Int))) (31 : Int))))) from by decide) (qc h4 (qc (Eq.refl ((((i : Nat) : Int) + (1 : Int)))) (qc (Eq.refl s) (qc (Eq.refl r) (qc (Eq.refl n) (qc (Eq.refl w) (qc h5 (qn))))))))))))))))))))))))⟩
theorem t3_exit (s r w v : List Int) (n : Int) (i : Nat)
 (h1 : ((decide (((i : Nat) : Int) < (64 : Int))) = false)) :
 ∃ ps, stepPs Tryd.prog DS gamT 100 (bodyN Tryd.f59 3) 100 (tk3Sn s r n w v [slI 92 i]).st [.is false] (.exit 6) (tk3Sn s r n w v []) = some ps ∧ AllQ ps := ⟨_, by kernel_rfl, qc h1 (qc (Eq.refl s) (qc (Eq.refl r) (qc (Eq.refl n) (qc (Eq.refl w) (qc (Eq.refl v) (qn))))))⟩
theorem t4_round (s r w v s' : List Int) (n : Int) (i : Nat)
 (h1 : ((decide (((i : Nat) : Int) < (8 : Int))) = true))
 (h2 : ((0 : Int) ≤ ((i : Nat) : Int)))
 (h3 : (((i : Nat) : Int) < (((8 : Nat) : Nat) : Int)))
 (h4 : (InI64 (((i : Nat) : Int) + (1 : Int))))
 (h5 : ((List.set s (Int.toNat ((i : Nat) : Int)) (Go.IntKind.wrap Go.IntKind.u32 ((List.getD s (Int.toNat ((i : Nat) : Int)) (0 : Int)) + (List.getD v (Int.toNat ((i : Nat) : Int)) (0 : Int))))) = s')) :
 ∃ ps, stepPs Tryd.prog DS gamT 100 (bodyN Tryd.f59 4) 100 (tk3Sn s r n w v [slI 172 i]).st [.is true] .normal (tk3Sn s' r n w v [slI 172 ((i : Int) + 1)]) = some ps ∧ AllQ ps := ⟨_, by kernel_rfl, qc h1 (qc h2 (qc h3 (qc h2 (qc h3 (qc h2 (qc h3 (qc h4 (qc (Eq.refl ((((i : Nat) : Int) + (1 : Int)))) (qc h5 (qc (Eq.refl r) (qc (Eq.refl n) (qc (Eq.refl w) (qc (Eq.refl v) (qn))))))))))))))⟩
theorem t4_exit (s r w v : List Int) (n : Int) (i : Nat)
 (h1 : ((decide (((i : Nat) : Int) < (8 : Int))) = false)) :
 ∃ ps, stepPs Tryd.prog DS gamT 100 (bodyN Tryd.f59 4) 100 (tk3Sn s r n w v [slI 172 i]).st [.is false] (.exit 8) (tk3Sn s r n w v []) = some ps ∧ AllQ ps := ⟨_, by kernel_rfl, qc h1 (qc (Eq.refl s) (qc (Eq.refl r) (qc (Eq.refl n) (qc (Eq.refl w) (qc (Eq.refl v) (qn))))))⟩
theorem take_run (s r p w0 w16 w64 v64 s' : List Int) (n : Int)
 (h1 : SumOK Tryd.prog DS (bodyN Tryd.f59 0) (loopL DS (tkSn s r n p w0 [slI 23 (0 : Nat)]) (.exit 0) (tkSn s r n p w16 [])))
 (h2 : (([(0 : Int), (0 : Int), (0 : Int), (0 : Int), (0 : Int), (0 : Int), (0 : Int), (0 : Int), (0 : Int), (0 : Int), (0 : Int), (0 : Int), (0 : Int), (0 : Int), (0 : Int), (0 : Int), (0 : Int), (0 : Int), (0 : Int), (0 : Int), (0 : Int), (0 : Int), (0 : Int), (0 : Int), (0 : Int), (0 : Int), (0 : Int), (0 : Int), (0 : Int), (0 : Int), (0 : Int), (0 : Int), (0 : Int), (0 : Int), (0 : Int), (0 : Int), (0 : Int), (0 : Int), (0 : Int), (0 : Int), (0 : Int), (0 : Int), (0 : Int), (0 : Int), (0 : Int), (0 : Int), (0 : Int), (0 : Int), (0 : Int), (0 : Int), (0 : Int), (0 : Int), (0 : Int), (0 : Int), (0 : Int), (0 : Int), (0 : Int), (0 : Int), (0 : Int), (0 : Int), (0 : Int), (0 : Int), (0 : Int), (0 : Int)] : List Int) = w0))
 (h3 : SumOK Tryd.prog DS (bodyN Tryd.f59 2) (loopL DS (tkSn s r n p w16 [slI 45 (0 : Nat)]) (.exit 4) (tkSn s r n p w64 [])))
 (h4 : SumOK Tryd.prog DS (bodyN Tryd.f59 3) (loopL DS (tk3Sn s r n w64 s [slI 92 (0 : Nat)]) (.exit 6) (tk3Sn s r n w64 v64 [])))
 (h5 : SumOK Tryd.prog DS (bodyN Tryd.f59 4) (loopL DS (tk3Sn s r n w64 v64 [slI 172 (0 : Nat)]) (.exit 8) (tk3Sn s' r n w64 v64 []))) :
 ∃ ps, runO Tryd.prog DS gamT 100 Tryd.f59 ([.fixed 105 (hashP s r n)], [.one (.ref 0 0), .agg [.arr .u8 64 p]]) [.loop (loopL DS (tkSn s r n p w0 [slI 23 (0 : Nat)]) (.exit 0) (tkSn s r n p w16 [])), .loop (loopL DS (tkSn s r n p w16 [slI 45 (0 : Nat)]) (.exit 4) (tkSn s r n p w64 [])), .loop (loopL DS (tk3Sn s r n w64 s [slI 92 (0 : Nat)]) (.exit 6) (tk3Sn s r n w64 v64 [])), .loop (loopL DS (tk3Sn s r n w64 v64 [slI 172 (0 : Nat)]) (.exit 8) (tk3Sn s' r n w64 v64 []))] (.tup []) [.fixed 105 (hashP s' r n)] = some ps ∧ AllQ ps := ⟨_, by kernel_rfl, qc h1 (qc (show ((0 : Int) = (((0 : Nat) : Nat) : Int)) from by decide) (qc (Eq.refl s) (qc (Eq.refl r) (qc (Eq.refl n) (qc (Eq.refl p) (qc h2 (qc h3 (qc (show ((0 : Int) = (((0 : Nat) : Nat) : Int)) from by decide) (qc (Eq.refl s) (qc (Eq.refl r) (qc (Eq.refl n) (qc (Eq.refl p) (qc (Eq.refl w16) (qc h4 (qc (show ((0 : Int) = (((0 : Nat) : Nat) : Int)) from by decide) (qc (Eq.refl s) (qc (Eq.refl r) (qc (Eq.refl n) (qc (Eq.refl w64) (qc (Eq.refl s) (qc h5 (qc (show ((0 : Int) = (((0 : Nat) : Nat) : Int)) from by decide) (qc (Eq.refl s) (qc (Eq.refl r) (qc (Eq.refl n) (qc (Eq.refl w64) (qc (Eq.refl v64) (qc (Eq.refl (s')) (qc (Eq.refl r) (qc (Eq.refl n) (qn)))))))))))))))))))))))))))))))⟩
end Go.Num
namespace Go.Num
open Go.Abs Go.Proofs Go.Shelf
def sft (x : Int) (l r : Nat) : Int := bitsOf .or .u32 (IntKind.u32.wrap (x * 2 ^ min l 32)) (x.fdiv (2 ^ min r 32))
def xr (a b : Int) : Int := bitsOf .xor .u32 a b
def an (a b : Int) : Int := bitsOf .and .u32 a b
def ad (a b : Int) : Int := IntKind.u32.wrap (a + b)
def nt (a : Int) : Int := bitsOf .xor .u32 4294967295 a
def tw1 (p w : List Int) (i : Int) : Nat → List Int
  | 0 => w
  | j + 1 => (tw1 p w i j).set i.toNat (bitsOf .or .u32 (IntKind.u32.wrap ((tw1 p w i j).getD i.toNat 0 * 2 ^ min 8 32)) (IntKind.u32.wrap (p.getD (4 * i + (j : Int)).toNat 0)))
def tw0 (p : List Int) : Nat → List Int
  | 0 => List.replicate 64 0
  | i + 1 => tw1 p (tw0 p i) i 4
def twStep (w : List Int) (i : Nat) : List Int :=
  w.set ((i : Int) + 16).toNat (ad (ad (ad (w.getD (i : Int).toNat 0) (xr (xr (sft (w.getD ((i : Int) + 1).toNat 0) 25 7) (sft (w.getD ((i : Int) + 1).toNat 0) 14 18)) ((w.getD ((i : Int) + 1).toNat 0).fdiv (2 ^ min 3 32)))) (w.getD ((i : Int) + 9).toNat 0))
    (xr (xr (sft (w.getD ((i : Int) + 14).toNat 0) 15 17) (sft (w.getD ((i : Int) + 14).toNat 0) 13 19)) ((w.getD ((i : Int) + 14).toNat 0).fdiv (2 ^ min 10 32))))
def tw2 (w : List Int) : Nat → List Int
  | 0 => w
  | i + 1 => twStep (tw2 w i) i
def tvT (w v : List Int) (i : Nat) : Int :=
  ad (ad (v.getD 7 0) (xr (xr (sft (v.getD 4 0) 26 6) (sft (v.getD 4 0) 21 11)) (sft (v.getD 4 0) 7 25))) (ad (ad (xr (an (v.getD 4 0) (v.getD 5 0)) (an (nt (v.getD 4 0)) (v.getD 6 0))) (rootsL.getD (i : Int).toNat 0)) (w.getD (i : Int).toNat 0))
def tvU (v : List Int) : Int :=
  ad (xr (xr (sft (v.getD 0 0) 30 2) (sft (v.getD 0 0) 19 13)) (sft (v.getD 0 0) 10 22)) (xr (xr (an (v.getD 0 0) (v.getD 1 0)) (an (v.getD 0 0) (v.getD 2 0))) (an (v.getD 1 0) (v.getD 2 0)))
def tvStep (w v : List Int) (i : Nat) : List Int :=
  [ad (tvT w v i) (tvU v), v.getD 0 0, v.getD 1 0, v.getD 2 0, ad (v.getD 3 0) (tvT w v i), v.getD 4 0, v.getD 5 0, v.getD 6 0]
def tv3 (w v : List Int) : Nat → List Int
  | 0 => v
  | i + 1 => tvStep w (tv3 w v i) i
def ts4 (s v : List Int) : Nat → List Int
  | 0 => s
  | i + 1 => (ts4 s v i).set (i : Int).toNat (ad ((ts4 s v i).getD (i : Int).toNat 0) (v.getD (i : Int).toNat 0))
def takeF (s p : List Int) : List Int := ts4 s (tv3 (tw2 (tw0 p 16) 48) s 64) 8
theorem inI64_small {x : Int} (h0 : 0 ≤ x) (h1 : x < 1000000) : InI64 x := ⟨by omega, by omega⟩
theorem take_l1 (s r p w : List Int) (n : Int) (i : Nat) (hi : i < 16) : SumOK Tryd.prog DS (bodyN Tryd.f59 1) (loopL DS (tkSn s r n p w [slI 23 i, slI 5 i, slI 26 (0 : Nat)]) (.exit 2) (tkSn s r n p (tw1 p w i 4) [slI 23 i])) := by
  refine sum_loop gamT_ok mixed (fun j => tkSn s r n p (tw1 p w i j) [slI 23 i, slI 5 i, slI 26 j]) 4 rfl (fun j hj => ?_) ?_
  · exact ⟨_, _, _, t1_round s r p (tw1 p w i j) (tw1 p w i (j + 1)) n i j (decide_eq_true (by omega)) (by omega) (by omega) (inI64_small (by omega) (by omega)) (inI64_small (by omega) (by omega)) (by omega) (by omega) (inI64_small (by omega) (by omega)) rfl⟩
  · exact ⟨_, _, _, t1_exit s r p (tw1 p w i 4) n i 4 (decide_eq_false (by omega))⟩
theorem take_l0 (s r p : List Int) (n : Int) : SumOK Tryd.prog DS (bodyN Tryd.f59 0) (loopL DS (tkSn s r n p (tw0 p 0) [slI 23 (0 : Nat)]) (.exit 0) (tkSn s r n p (tw0 p 16) [])) := by
  refine sum_loop gamT_ok mixed (fun i => tkSn s r n p (tw0 p i) [slI 23 i]) 16 rfl (fun i hi => ?_) ?_
  · exact ⟨_, _, _, t0_round s r p (tw0 p i) (tw0 p (i + 1)) n i (decide_eq_true (by omega)) (take_l1 s r p (tw0 p i) n i hi) (inI64_small (by omega) (by omega))⟩
  · exact ⟨_, _, _, t0_exit s r p (tw0 p 16) n 16 (decide_eq_false (by omega))⟩
theorem take_l2 (s r p w : List Int) (n : Int) : SumOK Tryd.prog DS (bodyN Tryd.f59 2) (loopL DS (tkSn s r n p w [slI 45 (0 : Nat)]) (.exit 4) (tkSn s r n p (tw2 w 48) [])) := by
  refine sum_loop gamT_ok mixed (fun i => tkSn s r n p (tw2 w i) [slI 45 i]) 48 rfl (fun i hi => ?_) ?_
  · exact ⟨_, _, _, t2_round s r p (tw2 w i) (tw2 w (i + 1)) n i (decide_eq_true (by omega)) (inI64_small (by omega) (by omega)) (by omega) (by omega) (inI64_small (by omega) (by omega)) (by omega) (by omega) (inI64_small (by omega) (by omega)) (by omega) (by omega) (inI64_small (by omega) (by omega)) (by omega) (by omega) (by omega) (by omega) rfl⟩
  · exact ⟨_, _, _, t2_exit s r p (tw2 w 48) n 48 (decide_eq_false (by omega))⟩
theorem take_l3 (s r w : List Int) (n : Int) : SumOK Tryd.prog DS (bodyN Tryd.f59 3) (loopL DS (tk3Sn s r n w s [slI 92 (0 : Nat)]) (.exit 6) (tk3Sn s r n w (tv3 w s 64) [])) := by
  refine sum_loop gamT_ok mixed (fun i => tk3Sn s r n w (tv3 w s i) [slI 92 i]) 64 rfl (fun i hi => ?_) ?_
  · exact ⟨_, _, _, t3_round s r w (tv3 w s i) (tv3 w s (i + 1)) n i (decide_eq_true (by omega)) (by omega) (by omega) (inI64_small (by omega) (by omega)) rfl⟩
  · exact ⟨_, _, _, t3_exit s r w (tv3 w s 64) n 64 (decide_eq_false (by omega))⟩
theorem take_l4 (s r w v : List Int) (n : Int) : SumOK Tryd.prog DS (bodyN Tryd.f59 4) (loopL DS (tk3Sn s r n w v [slI 172 (0 : Nat)]) (.exit 8) (tk3Sn (ts4 s v 8) r n w v [])) := by
  refine sum_loop gamT_ok mixed (fun i => tk3Sn (ts4 s v i) r n w v [slI 172 i]) 8 rfl (fun i hi => ?_) ?_
  · exact ⟨_, _, _, t4_round (ts4 s v i) r w v (ts4 s v (i + 1)) n i (decide_eq_true (by omega)) (by omega) (by omega) (inI64_small (by omega) (by omega)) rfl⟩
  · exact ⟨_, _, _, t4_exit (ts4 s v 8) r w v n 8 (decide_eq_false (by omega))⟩
def hashOf (ps : List (Part DS.τ)) : Option (List Int × List Int × Int) :=
  match intsAt DS ps 0 8 with
  | some (_, s) => match intsAt DS ps 8 64 with
    | some (_, r) => match splitP DS ps 72 1 with
      | some (_, [.int .i64 _ n], _) => some (s, r, n)
      | _ => none
    | none => none
  | none => none
def takeRd : List (BoxSt DS.τ) → List (A0 DS.τ) → Option (List Int × List Int × Int × List Int)
  | [.fixed _ ps], [.one (.ref 0 0), .agg qs] => match hashOf ps with
    | some (s, r, n) => match allInts .u8 qs with
      | some p => some (s, r, n, p)
      | none => none
    | none => none
  | _, _ => none
def takePre (t : List Int × List Int × Int × List Int) : List (BoxSt DS.τ) × List (A0 DS.τ) :=
  ([.fixed 105 (hashP t.1 t.2.1 t.2.2.1)], [.one (.ref 0 0), .agg [.arr .u8 64 t.2.2.2]])
def takePost (t : List Int × List Int × Int × List Int) : Option (AV DS.τ × List (BoxSt DS.τ) × List Prop) :=
  some (.tup [], [.fixed 105 (hashP (takeF t.1 t.2.2.2) t.2.1 t.2.2.1)], [])
noncomputable def takeD := mkF DS Tryd.f59.ntmps takeRd takePre takePost
theorem take_ok : OpOK Tryd.prog DS 59 takeD := by
  refine opOK_mk gamT_ok mixed Tryd.func59 (enters_of Tryd.func59 (by kernel_rfl) rfl) ?_
  rintro ⟨s, r, n, p⟩ r' bs' ps h hps
  simp only [takePost, Option.some.injEq, Prod.mk.injEq] at h
  obtain ⟨rfl, rfl, rfl⟩ := h
  exact ⟨_, _, take_run s r p (tw0 p 0) (tw0 p 16) (tw2 (tw0 p 16) 48) (tv3 (tw2 (tw0 p 16) 48) s 64) (takeF s p) n (take_l0 s r p n) rfl (take_l2 s r p _ n) (take_l3 s r _ n) (take_l4 s r _ _ n)⟩
end Go.Num
namespace Go.Num
open Go.Abs Go.Proofs Go.Shelf
noncomputable def gamW : Gam DS := [(59, .op [true, false] takeD)]
theorem gamW_ok : GamOK Tryd.prog DS gamW := gam_op take_ok gam_nil
def wrSn (s r l : List Int) (n : Int) : Sn DS.τ where
  slots := [(0, .v (.one (.ref 0 0))), (1, .v (.one (.words .u8 l)))]
  boxes := [(0, .fixed 105 (hashP s r n))]
  nt := 69
  np := 1
def wrPre (s r l : List Int) (n : Int) : List (BoxSt DS.τ) × List (A0 DS.τ) := ([.fixed 105 (hashP s r n)], [.one (.ref 0 0), .one (.words .u8 l)])
theorem wr_round (s r l s' l' : List Int) (n : Int)
 (h1 : ((decide ((((List.length l) : Nat) : Int) ≥ (64 : Int))) = true))
 (h2 : ((64 : Nat) ≤ (List.length l)))
 (h3 : ((64 : Int) ≤ (((List.length l) : Nat) : Int)))
 (h4 : ((((List.length l) : Nat) : Int) ≤ (((List.length l) : Nat) : Int)))
 (h5 : ((List.drop (64 : Nat) (List.take (Int.toNat (((List.length l) : Nat) : Int)) l)) = l'))
 (h6 : ((ts4 s (tv3 (tw2 (tw0 (List.take (64 : Nat) l) (16 : Nat)) (48 : Nat)) s (64 : Nat)) (8 : Nat)) = s')) :
 ∃ ps, stepPs Tryd.prog DS gamW 100 (bodyN Tryd.f54 0) 100 (wrSn s r l n).st [.is true] .normal (wrSn s' r l' n) = some ps ∧ AllQ ps := ⟨_, by kernel_rfl, qc h1 (qc h2 (qc (Eq.refl ((List.take (64 : Nat) l))) (qc (Eq.refl s) (qc (Eq.refl r) (qc (Eq.refl n) (qc (show ((0 : Int) ≤ (64 : Int)) from by decide) (qc h3 (qc h4 (qc h5 (qc h6 (qc (Eq.refl r) (qc (Eq.refl n) (qn)))))))))))))⟩
theorem wr_exit (s r l : List Int) (n : Int)
 (h1 : ((decide ((((List.length l) : Nat) : Int) ≥ (64 : Int))) = false)) :
 ∃ ps, stepPs Tryd.prog DS gamW 100 (bodyN Tryd.f54 0) 100 (wrSn s r l n).st [.is false] (.exit 0) (wrSn s r l n) = some ps ∧ AllQ ps := ⟨_, by kernel_rfl, qc h1 (qc (Eq.refl l) (qc (Eq.refl s) (qc (Eq.refl r) (qc (Eq.refl n) (qn)))))⟩
theorem wr_new (s r l s' r' l' : List Int) (n n1 : Int)
 (h1 : ((n == (0 : Int)) = true))
 (h2 : (InI64 (n + (((List.length l) : Nat) : Int))))
 (h3 : ((decide ((Int.tmod n (64 : Int)) > (0 : Int))) = false))
 (h4 : SumOK Tryd.prog DS (bodyN Tryd.f54 0) (loopL DS (wrSn firstL r l n1) (.exit 0) (wrSn s' r l' n1)))
 (h5 : ((n + (((List.length l) : Nat) : Int)) = n1))
 (h6 : ((((List.take (0 : Nat) r) ++ (List.take ((64 : Nat) - (0 : Nat)) l')) ++ (List.drop ((0 : Nat) + (List.length (List.take ((64 : Nat) - (0 : Nat)) l'))) r)) = r')) :
 ∃ ps, runO Tryd.prog DS gamW 100 Tryd.f54 (wrPre s r l n) [.is true, .is false, .loop (loopL DS (wrSn firstL r l n1) (.exit 0) (wrSn s' r l' n1))] (.tup []) [.fixed 105 (hashP s' r' n1)] = some ps ∧ AllQ ps := ⟨_, by kernel_rfl, qc h1 (qc h2 (qc h3 (qc h4 (qc (Eq.refl l) (qc (Eq.refl (([(1779033703 : Int), (3144134277 : Int), (1013904242 : Int), (2773480762 : Int), (1359893119 : Int), (2600822924 : Int), (528734635 : Int), (1541459225 : Int)] : List Int))) (qc (Eq.refl r) (qc h5 (qc (show ((0 : Int) ≤ (0 : Int)) from by decide) (qc (show ((0 : Int) ≤ (((64 : Nat) : Nat) : Int)) from by decide) (qc (show ((((64 : Nat) : Nat) : Int) ≤ (((64 : Nat) : Nat) : Int)) from by decide) (qc (show ((0 : Int) < (((64 : Nat) : Nat) : Int)) from by decide) (qc (Eq.refl (s')) (qc h6 (qc (Eq.refl n1) (qn)))))))))))))))⟩
theorem wr_even (s r l s' r' l' : List Int) (n n1 : Int)
 (h1 : ((n == (0 : Int)) = false))
 (h2 : (InI64 (n + (((List.length l) : Nat) : Int))))
 (h3 : ((decide ((Int.tmod n (64 : Int)) > (0 : Int))) = false))
 (h4 : SumOK Tryd.prog DS (bodyN Tryd.f54 0) (loopL DS (wrSn s r l n1) (.exit 0) (wrSn s' r l' n1)))
 (h5 : ((n + (((List.length l) : Nat) : Int)) = n1))
 (h6 : ((((List.take (0 : Nat) r) ++ (List.take ((64 : Nat) - (0 : Nat)) l')) ++ (List.drop ((0 : Nat) + (List.length (List.take ((64 : Nat) - (0 : Nat)) l'))) r)) = r')) :
 ∃ ps, runO Tryd.prog DS gamW 100 Tryd.f54 (wrPre s r l n) [.is false, .is false, .loop (loopL DS (wrSn s r l n1) (.exit 0) (wrSn s' r l' n1))] (.tup []) [.fixed 105 (hashP s' r' n1)] = some ps ∧ AllQ ps := ⟨_, by kernel_rfl, qc h1 (qc h2 (qc h3 (qc h4 (qc (Eq.refl l) (qc (Eq.refl s) (qc (Eq.refl r) (qc h5 (qc (show ((0 : Int) ≤ (0 : Int)) from by decide) (qc (show ((0 : Int) ≤ (((64 : Nat) : Nat) : Int)) from by decide) (qc (show ((((64 : Nat) : Nat) : Int) ≤ (((64 : Nat) : Nat) : Int)) from by decide) (qc (show ((0 : Int) < (((64 : Nat) : Nat) : Int)) from by decide) (qc (Eq.refl (s')) (qc h6 (qc (Eq.refl n1) (qn)))))))))))))))⟩
theorem wr_few (s r l r' : List Int) (n n1 : Int)
 (h1 : ((n == (0 : Int)) = false))
 (h2 : (InI64 (n + (((List.length l) : Nat) : Int))))
 (h3 : ((decide ((Int.tmod n (64 : Int)) > (0 : Int))) = true))
 (h4 : ((0 : Int) ≤ (Int.tmod n (64 : Int))))
 (h5 : ((Int.tmod n (64 : Int)) ≤ (((64 : Nat) : Nat) : Int)))
 (h6 : ((Int.tmod n (64 : Int)) < (((64 : Nat) : Nat) : Int)))
 (h7 : (InI64 ((Int.tmod n (64 : Int)) + (((min ((64 : Nat) - (Int.toNat (Int.tmod n (64 : Int)))) (List.length l)) : Nat) : Int))))
 (h8 : ((decide (((Int.tmod n (64 : Int)) + (((min ((64 : Nat) - (Int.toNat (Int.tmod n (64 : Int)))) (List.length l)) : Nat) : Int)) < (64 : Int))) = true))
 (h9 : ((((List.take (Int.toNat (Int.tmod n (64 : Int))) r) ++ (List.take ((64 : Nat) - (Int.toNat (Int.tmod n (64 : Int)))) l)) ++ (List.drop ((Int.toNat (Int.tmod n (64 : Int))) + (List.length (List.take ((64 : Nat) - (Int.toNat (Int.tmod n (64 : Int)))) l))) r)) = r'))
 (h10 : ((n + (((List.length l) : Nat) : Int)) = n1)) :
 ∃ ps, runO Tryd.prog DS gamW 100 Tryd.f54 (wrPre s r l n) [.is false, .is true, .is true] (.tup []) [.fixed 105 (hashP s r' n1)] = some ps ∧ AllQ ps := ⟨_, by kernel_rfl, qc h1 (qc h2 (qc h3 (qc h4 (qc h5 (qc (show ((((64 : Nat) : Nat) : Int) ≤ (((64 : Nat) : Nat) : Int)) from by decide) (qc h6 (qc h7 (qc h8 (qc (Eq.refl s) (qc h9 (qc h10 (qn))))))))))))⟩
theorem wr_more (s r l s1 r1 l1 s' r' l' : List Int) (n n1 : Int)
 (h1 : ((n == (0 : Int)) = false))
 (h2 : (InI64 (n + (((List.length l) : Nat) : Int))))
 (h3 : ((decide ((Int.tmod n (64 : Int)) > (0 : Int))) = true))
 (h4 : ((0 : Int) ≤ (Int.tmod n (64 : Int))))
 (h5 : ((Int.tmod n (64 : Int)) ≤ (((64 : Nat) : Nat) : Int)))
 (h6 : ((Int.tmod n (64 : Int)) < (((64 : Nat) : Nat) : Int)))
 (h7 : (InI64 ((Int.tmod n (64 : Int)) + (((min ((64 : Nat) - (Int.toNat (Int.tmod n (64 : Int)))) (List.length l)) : Nat) : Int))))
 (h8 : ((decide (((Int.tmod n (64 : Int)) + (((min ((64 : Nat) - (Int.toNat (Int.tmod n (64 : Int)))) (List.length l)) : Nat) : Int)) < (64 : Int))) = false))
 (h9 : ((0 : Int) ≤ (((min ((64 : Nat) - (Int.toNat (Int.tmod n (64 : Int)))) (List.length l)) : Nat) : Int)))
 (h10 : ((((min ((64 : Nat) - (Int.toNat (Int.tmod n (64 : Int)))) (List.length l)) : Nat) : Int) ≤ (((List.length l) : Nat) : Int)))
 (h11 : ((((List.length l) : Nat) : Int) ≤ (((List.length l) : Nat) : Int)))
 (h12 : SumOK Tryd.prog DS (bodyN Tryd.f54 0) (loopL DS (wrSn s1 r1 l1 n1) (.exit 0) (wrSn s' r1 l' n1)))
 (h13 : ((List.drop (Int.toNat (((min ((64 : Nat) - (Int.toNat (Int.tmod n (64 : Int)))) (List.length l)) : Nat) : Int)) (List.take (Int.toNat (((List.length l) : Nat) : Int)) l)) = l1))
 (h14 : ((ts4 s (tv3 (tw2 (tw0 (((List.take (Int.toNat (Int.tmod n (64 : Int))) r) ++ (List.take ((64 : Nat) - (Int.toNat (Int.tmod n (64 : Int)))) l)) ++ (List.drop ((Int.toNat (Int.tmod n (64 : Int))) + (List.length (List.take ((64 : Nat) - (Int.toNat (Int.tmod n (64 : Int)))) l))) r)) (16 : Nat)) (48 : Nat)) s (64 : Nat)) (8 : Nat)) = s1))
 (h15 : ((((List.take (Int.toNat (Int.tmod n (64 : Int))) r) ++ (List.take ((64 : Nat) - (Int.toNat (Int.tmod n (64 : Int)))) l)) ++ (List.drop ((Int.toNat (Int.tmod n (64 : Int))) + (List.length (List.take ((64 : Nat) - (Int.toNat (Int.tmod n (64 : Int)))) l))) r)) = r1))
 (h16 : ((n + (((List.length l) : Nat) : Int)) = n1))
 (h17 : ((((List.take (0 : Nat) r1) ++ (List.take ((64 : Nat) - (0 : Nat)) l')) ++ (List.drop ((0 : Nat) + (List.length (List.take ((64 : Nat) - (0 : Nat)) l'))) r1)) = r')) :
 ∃ ps, runO Tryd.prog DS gamW 100 Tryd.f54 (wrPre s r l n) [.is false, .is true, .is false, .loop (loopL DS (wrSn s1 r1 l1 n1) (.exit 0) (wrSn s' r1 l' n1))] (.tup []) [.fixed 105 (hashP s' r' n1)] = some ps ∧ AllQ ps := ⟨_, by kernel_rfl, qc h1 (qc h2 (qc h3 (qc h4 (qc h5 (qc (show ((((64 : Nat) : Nat) : Int) ≤ (((64 : Nat) : Nat) : Int)) from by decide) (qc h6 (qc h7 (qc h8 (qc h9 (qc h10 (qc h11 (qc (Eq.refl ((((List.take (Int.toNat (Int.tmod n (64 : Int))) r) ++ (List.take ((64 : Nat) - (Int.toNat (Int.tmod n (64 : Int)))) l)) ++ (List.drop ((Int.toNat (Int.tmod n (64 : Int))) + (List.length (List.take ((64 : Nat) - (Int.toNat (Int.tmod n (64 : Int)))) l))) r)))) (qc (Eq.refl s) (qc (Eq.refl ((((List.take (Int.toNat (Int.tmod n (64 : Int))) r) ++ (List.take ((64 : Nat) - (Int.toNat (Int.tmod n (64 : Int)))) l)) ++ (List.drop ((Int.toNat (Int.tmod n (64 : Int))) + (List.length (List.take ((64 : Nat) - (Int.toNat (Int.tmod n (64 : Int)))) l))) r)))) (qc (Eq.refl ((n + (((List.length l) : Nat) : Int)))) (qc h12 (qc h13 (qc h14 (qc h15 (qc h16 (qc (show ((0 : Int) ≤ (0 : Int)) from by decide) (qc (show ((0 : Int) ≤ (((64 : Nat) : Nat) : Int)) from by decide) (qc (show ((((64 : Nat) : Nat) : Int) ≤ (((64 : Nat) : Nat) : Int)) from by decide) (qc (show ((0 : Int) < (((64 : Nat) : Nat) : Int)) from by decide) (qc (Eq.refl (s')) (qc h17 (qc (Eq.refl n1) (qn))))))))))))))))))))))))))))⟩
theorem wr_nil (l : List Int) :
 ∃ ps, runO Tryd.prog DS gamW 100 Tryd.f54 ([], [.one .nilp, .one (.words .u8 l)]) [] (.tup []) [] = some ps ∧ AllQ ps := ⟨_, by kernel_rfl, qn⟩
def eat (s l : List Int) : Nat → List Int
  | 0 => s
  | k + 1 => takeF (eat s l k) ((l.drop (64 * k)).take 64)
def eatAll (s r l : List Int) : List Int × List Int := (eat s l (l.length / 64), over r 0 ((l.drop (64 * (l.length / 64))).take 64))
def writeF (s r : List Int) (N : Nat) (l : List Int) : List Int × List Int :=
  if N % 64 = 0 then eatAll (if N = 0 then firstL else s) r l
  else if N % 64 + l.length < 64 then (s, over r (N % 64) (l.take (64 - N % 64)))
  else eatAll (takeF s (over r (N % 64) (l.take (64 - N % 64)))) (over r (N % 64) (l.take (64 - N % 64))) (l.drop (64 - N % 64))
def writeS (s r : List Int) (N : Nat) (l : List Int) : List Int := (writeF s r N l).1
def writeR (s r : List Int) (N : Nat) (l : List Int) : List Int := (writeF s r N l).2
theorem drop_take_len {l : List Int} {k : Nat} : List.drop k (List.take (Int.toNat (l.length : Int)) l) = l.drop k := by
  rw [Int.toNat_natCast, List.take_length]
theorem wr_loop (s r l : List Int) (n : Int) : SumOK Tryd.prog DS (bodyN Tryd.f54 0) (loopL DS (wrSn s r l n) (.exit 0) (wrSn (eat s l (l.length / 64)) r (l.drop (64 * (l.length / 64))) n)) := by
  have hI : ∀ k, (wrSn (eat s l k) r (l.drop (64 * k)) n) = wrSn (eat s l k) r (l.drop (64 * k)) n := fun _ => rfl
  have h := sum_loop gamW_ok mixed (c := bodyN Tryd.f54 0) (fun k => wrSn (eat s l k) r (l.drop (64 * k)) n) (l.length / 64) (e := .exit 0) (s := wrSn (eat s l (l.length / 64)) r (l.drop (64 * (l.length / 64))) n) rfl (fun k hk => ?_) ?_
  · simpa only [eat, Nat.mul_zero, List.drop_zero] using h
  · have hlen : 64 ≤ (l.drop (64 * k)).length := by rw [List.length_drop]; omega
    refine ⟨_, _, _, wr_round (eat s l k) r (l.drop (64 * k)) (eat s l (k + 1)) (l.drop (64 * (k + 1))) n (decide_eq_true (by omega)) hlen (by omega) (by omega) ?_ rfl⟩
    rw [drop_take_len, List.drop_drop]
    rw [show 64 * k + 64 = 64 * (k + 1) from by omega]
  · exact ⟨_, _, _, wr_exit _ r _ n (decide_eq_false (by rw [List.length_drop]; omega))⟩
inductive WrT where
  | nil (l : List Int)
  | one (s r : List Int) (n : Int) (l : List Int)
def wrRd : List (BoxSt DS.τ) → List (A0 DS.τ) → Option WrT
  | [], [.one .nilp, .one (.words .u8 l)] => some (.nil l)
  | [.fixed _ ps], [.one (.ref 0 0), .one (.words .u8 l)] => match hashOf ps with
    | some (s, r, n) => some (.one s r n l)
    | none => none
  | _, _ => none
def wrPreT : WrT → List (BoxSt DS.τ) × List (A0 DS.τ)
  | .nil l => ([], [.one .nilp, .one (.words .u8 l)])
  | .one s r n l => wrPre s r l n
def wrPost : WrT → Option (AV DS.τ × List (BoxSt DS.τ) × List Prop)
  | .nil _ => some (.tup [], [], [])
  | .one s r n l => some (.tup [], [.fixed 105 (hashP (writeS s r n.toNat l) (writeR s r n.toNat l) (n + l.length))], [0 ≤ n, n + l.length ≤ 9223372036854775807])
noncomputable def wrD := mkF DS Tryd.f54.ntmps wrRd wrPreT wrPost
theorem write_ok : OpOK Tryd.prog DS 54 wrD := by
  refine opOK_mk gamW_ok mixed Tryd.func54 (enters_of Tryd.func54 (by kernel_rfl) rfl) ?_
  rintro (l | ⟨s, r, n, l⟩) r' bs' ps h hps
  · simp only [wrPost, Option.some.injEq, Prod.mk.injEq] at h
    obtain ⟨rfl, rfl, rfl⟩ := h
    exact ⟨_, _, wr_nil l⟩
  · simp only [wrPost, Option.some.injEq, Prod.mk.injEq] at h
    obtain ⟨rfl, rfl, rfl⟩ := h
    have h0 : 0 ≤ n := hps _ (by simp)
    have h1 : n + l.length ≤ 9223372036854775807 := hps _ (by simp)
    obtain ⟨N, rfl⟩ : ∃ N : Nat, n = N := ⟨n.toNat, by omega⟩
    simp only [Int.toNat_natCast, writeS, writeR]
    have hm : Int.tmod (N : Int) 64 = ((N % 64 : Nat) : Int) := by
      rw [Int.tmod_eq_emod_of_nonneg (by omega)]; omega
    have hin : InI64 ((N : Int) + l.length) := ⟨by omega, by omega⟩
    by_cases hN : N = 0
    · subst hN
      exact ⟨_, _, wr_new s r l _ _ _ _ _ rfl hin rfl (wr_loop firstL r l _) rfl rfl⟩
    have hne : ((N : Int) == 0) = false := by rw [beq_eq_false_iff_ne]; omega
    by_cases ha : N % 64 = 0
    · have e : writeF s r N l = eatAll s r l := by unfold writeF; rw [if_pos ha, if_neg hN]
      rw [e]
      exact ⟨_, _, wr_even s r l _ _ _ _ _ hne hin (decide_eq_false (by omega)) (wr_loop s r l _) rfl rfl⟩
    by_cases hf : N % 64 + l.length < 64
    · have e : writeF s r N l = (s, over r (N % 64) (l.take (64 - N % 64))) := by unfold writeF; rw [if_neg ha, if_pos hf]
      rw [e]
      refine ⟨_, _, wr_few s r l _ _ _ hne hin (decide_eq_true (by omega)) (by omega) (by omega) (by omega) ⟨by omega, by omega⟩ (decide_eq_true (by rw [hm]; omega)) ?_ rfl⟩
      rw [hm, Int.toNat_natCast]
      rfl
    · have e : writeF s r N l = eatAll (takeF s (over r (N % 64) (l.take (64 - N % 64)))) (over r (N % 64) (l.take (64 - N % 64))) (l.drop (64 - N % 64)) := by unfold writeF; rw [if_neg ha, if_neg hf]
      rw [e]
      refine ⟨_, _, wr_more s r l (takeF s (over r (N % 64) (l.take (64 - N % 64)))) (over r (N % 64) (l.take (64 - N % 64))) (l.drop (64 - N % 64)) _ _ _ _ _ hne hin (decide_eq_true (by omega)) (by omega) (by omega) (by omega) ⟨by omega, by omega⟩ (decide_eq_false (by rw [hm]; omega)) (by omega) (by omega) (by omega) (wr_loop _ _ _ _) ?_ ?_ ?_ rfl rfl⟩
      · rw [drop_take_len, hm, Int.toNat_natCast, Int.toNat_natCast, Nat.min_eq_left (by omega)]
      · rw [hm, Int.toNat_natCast]; rfl
      · rw [hm, Int.toNat_natCast]; rfl
end Go.Num
namespace Go.Num
open Go.Abs Go.Proofs Go.Shelf
noncomputable def gamS : Gam DS := [(54, .op [true, false] wrD)]
theorem gamS_ok : GamOK Tryd.prog DS gamS := gam_op write_ok gam_nil
def smSn (s r z t : List Int) (n m : Int) (sl : List (Nat × AV DS.τ)) : Sn DS.τ where
  slots := [(0, .v (.one (.ref 0 0))), (2, .v (.one (.ref 1 0))), (3, .v (.one (.ref 2 0))), (4, .v (.one (.ref 3 0))), (5, .v (.one (.int .i64 false m)))] ++ sl
  boxes := [(0, .fixed 105 (hashP s r n)), (1, .fixed 97 [.arr .u8 32 z]), (2, .fixed 97 [.arr .u8 32 z]), (3, .fixed 113 [.arr .u8 72 t])]
  nt := 66
  np := 1
def sm2Sn (s r z s2 r2 o : List Int) (n n2 : Int) (sl : List (Nat × AV DS.τ)) : Sn DS.τ where
  slots := [(0, .v (.one (.ref 0 0))), (2, .v (.one (.ref 1 0))), (3, .v (.one (.ref 2 0))), (7, .v (.one (.ref 3 0)))] ++ sl
  boxes := [(0, .fixed 105 (hashP s r n)), (1, .fixed 97 [.arr .u8 32 z]), (2, .fixed 97 [.arr .u8 32 o]), (3, .fixed 105 (hashP s2 r2 n2))]
  nt := 66
  np := 1
theorem sm_round (s r z t t' : List Int) (n m : Int) (i : Nat)
 (h1 : ((decide (((i : Nat) : Int) < (8 : Int))) = true))
 (h2 : (InI64 ((1 : Int) + m)))
 (h3 : (InI64 (((1 : Int) + m) + ((i : Nat) : Int))))
 (h4 : (InI64 ((8 : Int) * ((i : Nat) : Int))))
 (h5 : (InI64 ((56 : Int) - ((8 : Int) * ((i : Nat) : Int)))))
 (h6 : ((0 : Int) ≤ ((56 : Int) - ((8 : Int) * ((i : Nat) : Int)))))
 (h7 : ((0 : Int) ≤ (((1 : Int) + m) + ((i : Nat) : Int))))
 (h8 : ((((1 : Int) + m) + ((i : Nat) : Int)) < (((72 : Nat) : Nat) : Int)))
 (h9 : (InI64 (((i : Nat) : Int) + (1 : Int))))
 (h10 : ((List.set t (Int.toNat (((1 : Int) + m) + ((i : Nat) : Int))) (Go.IntKind.wrap Go.IntKind.u8 (Int.fdiv (Go.IntKind.wrap Go.IntKind.u64 ((Go.IntKind.wrap Go.IntKind.u64 n) * (8 : Int))) ((2 : Int) ^ (min (Int.toNat ((56 : Int) - ((8 : Int) * ((i : Nat) : Int)))) (64 : Nat)))))) = t')) :
 ∃ ps, stepPs Tryd.prog DS gamS 100 (bodyN Tryd.f55 0) 100 (smSn s r z t n m [slI 20 i]).st [.is true] .normal (smSn s r z t' n m [slI 20 ((i : Int) + 1)]) = some ps ∧ AllQ ps := ⟨_, by kernel_rfl, qc h1 (qc h2 (qc h3 (qc h4 (qc h5 (qc h6 (qc h7 (qc h8 (qc h9 (qc (Eq.refl m) (qc (Eq.refl ((((i : Nat) : Int) + (1 : Int)))) (qc (Eq.refl s) (qc (Eq.refl r) (qc (Eq.refl n) (qc (Eq.refl z) (qc (Eq.refl z) (qc h10 (qn)))))))))))))))))⟩
theorem sm_exit (s r z t : List Int) (n m : Int) (i : Nat)
 (h1 : ((decide (((i : Nat) : Int) < (8 : Int))) = false)) :
 ∃ ps, stepPs Tryd.prog DS gamS 100 (bodyN Tryd.f55 0) 100 (smSn s r z t n m [slI 20 i]).st [.is false] (.exit 0) (smSn s r z t n m []) = some ps ∧ AllQ ps := ⟨_, by kernel_rfl, qc h1 (qc (Eq.refl m) (qc (Eq.refl s) (qc (Eq.refl r) (qc (Eq.refl n) (qc (Eq.refl z) (qc (Eq.refl z) (qc (Eq.refl t) (qn))))))))⟩
theorem sm2_round (s r z s2 r2 o o' : List Int) (n n2 : Int) (i : Nat)
 (h1 : ((decide (((i : Nat) : Int) < (32 : Int))) = true))
 (h2 : ((0 : Int) ≤ (Go.IntKind.wrap Go.IntKind.i64 (Int.tdiv ((i : Nat) : Int) (4 : Int)))))
 (h3 : ((Go.IntKind.wrap Go.IntKind.i64 (Int.tdiv ((i : Nat) : Int) (4 : Int))) < (((8 : Nat) : Nat) : Int)))
 (h4 : (InI64 ((8 : Int) * (Int.tmod ((i : Nat) : Int) (4 : Int)))))
 (h5 : (InI64 ((24 : Int) - ((8 : Int) * (Int.tmod ((i : Nat) : Int) (4 : Int))))))
 (h6 : ((0 : Int) ≤ ((24 : Int) - ((8 : Int) * (Int.tmod ((i : Nat) : Int) (4 : Int))))))
 (h7 : ((0 : Int) ≤ ((i : Nat) : Int)))
 (h8 : (((i : Nat) : Int) < (((32 : Nat) : Nat) : Int)))
 (h9 : (InI64 (((i : Nat) : Int) + (1 : Int))))
 (h10 : ((List.set o (Int.toNat ((i : Nat) : Int)) (Go.IntKind.wrap Go.IntKind.u8 (Int.fdiv (List.getD s2 (Int.toNat (Go.IntKind.wrap Go.IntKind.i64 (Int.tdiv ((i : Nat) : Int) (4 : Int)))) (0 : Int)) ((2 : Int) ^ (min (Int.toNat ((24 : Int) - ((8 : Int) * (Int.tmod ((i : Nat) : Int) (4 : Int))))) (32 : Nat)))))) = o')) :
 ∃ ps, stepPs Tryd.prog DS gamS 100 (bodyN Tryd.f55 1) 100 (sm2Sn s r z s2 r2 o n n2 [slI 48 i]).st [.is true] .normal (sm2Sn s r z s2 r2 o' n n2 [slI 48 ((i : Int) + 1)]) = some ps ∧ AllQ ps := ⟨_, by kernel_rfl, qc h1 (qc (show ((4 : Int) ≠ (0 : Int)) from by decide) (qc h2 (qc h3 (qc h4 (qc h5 (qc h6 (qc h7 (qc h8 (qc h9 (qc (Eq.refl ((((i : Nat) : Int) + (1 : Int)))) (qc (Eq.refl s) (qc (Eq.refl r) (qc (Eq.refl n) (qc (Eq.refl z) (qc h10 (qc (Eq.refl s2) (qc (Eq.refl r2) (qc (Eq.refl n2) (qn)))))))))))))))))))⟩
theorem sm2_exit (s r z s2 r2 o : List Int) (n n2 : Int) (i : Nat)
 (h1 : ((decide (((i : Nat) : Int) < (32 : Int))) = false)) :
 ∃ ps, stepPs Tryd.prog DS gamS 100 (bodyN Tryd.f55 1) 100 (sm2Sn s r z s2 r2 o n n2 [slI 48 i]).st [.is false] (.exit 2) (sm2Sn s r z s2 r2 o n n2 []) = some ps ∧ AllQ ps := ⟨_, by kernel_rfl, qc h1 (qc (Eq.refl s) (qc (Eq.refl r) (qc (Eq.refl n) (qc (Eq.refl z) (qc (Eq.refl o) (qc (Eq.refl s2) (qc (Eq.refl r2) (qc (Eq.refl n2) (qn)))))))))⟩
theorem sm_run (s r z t t' s2 r2 o : List Int) (n n2 m : Int)
 (h1 : (InI64 ((119 : Int) - (Int.tmod n (64 : Int)))))
 (h2 : SumOK Tryd.prog DS (bodyN Tryd.f55 0) (loopL DS (smSn s r z t n m [slI 20 (0 : Nat)]) (.exit 0) (smSn s r z t' n m [])))
 (h3 : ((Int.tmod ((119 : Int) - (Int.tmod n (64 : Int))) (64 : Int)) = m))
 (h4 : (([(0 : Int), (0 : Int), (0 : Int), (0 : Int), (0 : Int), (0 : Int), (0 : Int), (0 : Int), (0 : Int), (0 : Int), (0 : Int), (0 : Int), (0 : Int), (0 : Int), (0 : Int), (0 : Int), (0 : Int), (0 : Int), (0 : Int), (0 : Int), (0 : Int), (0 : Int), (0 : Int), (0 : Int), (0 : Int), (0 : Int), (0 : Int), (0 : Int), (0 : Int), (0 : Int), (0 : Int), (0 : Int)] : List Int) = z))
 (h5 : (([(128 : Int), (0 : Int), (0 : Int), (0 : Int), (0 : Int), (0 : Int), (0 : Int), (0 : Int), (0 : Int), (0 : Int), (0 : Int), (0 : Int), (0 : Int), (0 : Int), (0 : Int), (0 : Int), (0 : Int), (0 : Int), (0 : Int), (0 : Int), (0 : Int), (0 : Int), (0 : Int), (0 : Int), (0 : Int), (0 : Int), (0 : Int), (0 : Int), (0 : Int), (0 : Int), (0 : Int), (0 : Int), (0 : Int), (0 : Int), (0 : Int), (0 : Int), (0 : Int), (0 : Int), (0 : Int), (0 : Int), (0 : Int), (0 : Int), (0 : Int), (0 : Int), (0 : Int), (0 : Int), (0 : Int), (0 : Int), (0 : Int), (0 : Int), (0 : Int), (0 : Int), (0 : Int), (0 : Int), (0 : Int), (0 : Int), (0 : Int), (0 : Int), (0 : Int), (0 : Int), (0 : Int), (0 : Int), (0 : Int), (0 : Int), (0 : Int), (0 : Int), (0 : Int), (0 : Int), (0 : Int), (0 : Int), (0 : Int), (0 : Int)] : List Int) = t))
 (h6 : (InI64 ((1 : Int) + m)))
 (h7 : (InI64 (((1 : Int) + m) + (8 : Int))))
 (h8 : ((0 : Int) ≤ (((1 : Int) + m) + (8 : Int))))
 (h9 : ((((1 : Int) + m) + (8 : Int)) ≤ (((72 : Nat) : Nat) : Int)))
 (h10 : ((0 : Int) ≤ n))
 (h11 : ((n + (((List.length (List.take ((Int.toNat (((1 : Int) + m) + (8 : Int))) - (0 : Nat)) (List.drop (0 : Nat) t'))) : Nat) : Int)) ≤ (9223372036854775807 : Int)))
 (h12 : SumOK Tryd.prog DS (bodyN Tryd.f55 1) (loopL DS (sm2Sn s r z s2 r2 z n n2 [slI 48 (0 : Nat)]) (.exit 2) (sm2Sn s r z s2 r2 o n n2 [])))
 (h13 : ((writeS s r (Int.toNat n) (List.take ((Int.toNat (((1 : Int) + m) + (8 : Int))) - (0 : Nat)) (List.drop (0 : Nat) t'))) = s2))
 (h14 : ((writeR s r (Int.toNat n) (List.take ((Int.toNat (((1 : Int) + m) + (8 : Int))) - (0 : Nat)) (List.drop (0 : Nat) t'))) = r2))
 (h15 : ((n + (((List.length (List.take ((Int.toNat (((1 : Int) + m) + (8 : Int))) - (0 : Nat)) (List.drop (0 : Nat) t'))) : Nat) : Int)) = n2)) :
 ∃ ps, runO Tryd.prog DS gamS 100 Tryd.f55 ([.fixed 105 (hashP s r n)], [.one (.ref 0 0)]) [.loop (loopL DS (smSn s r z t n m [slI 20 (0 : Nat)]) (.exit 0) (smSn s r z t' n m [])), .loop (loopL DS (sm2Sn s r z s2 r2 z n n2 [slI 48 (0 : Nat)]) (.exit 2) (sm2Sn s r z s2 r2 o n n2 []))] (.v (.agg [.arr .u8 32 o])) [.fixed 105 (hashP s r n)] = some ps ∧ AllQ ps := ⟨_, by kernel_rfl, qc h1 (qc h2 (qc h3 (qc (show ((0 : Int) = (((0 : Nat) : Nat) : Int)) from by decide) (qc (Eq.refl s) (qc (Eq.refl r) (qc (Eq.refl n) (qc h4 (qc h4 (qc h5 (qc h6 (qc h7 (qc (show ((0 : Int) ≤ (0 : Int)) from by decide) (qc h8 (qc h9 (qc (show ((0 : Int) < (((72 : Nat) : Nat) : Int)) from by decide) (qc (Eq.refl ((List.take ((Int.toNat (((1 : Int) + m) + (8 : Int))) - (0 : Nat)) (List.drop (0 : Nat) t')))) (qc (Eq.refl s) (qc (Eq.refl r) (qc (Eq.refl n) (qc h10 (qc h11 (qc h12 (qc (show ((0 : Int) = (((0 : Nat) : Nat) : Int)) from by decide) (qc (Eq.refl s) (qc (Eq.refl r) (qc (Eq.refl n) (qc (Eq.refl z) (qc (Eq.refl z) (qc h13 (qc h14 (qc h15 (qc (Eq.refl o) (qc (Eq.refl s) (qc (Eq.refl r) (qc (Eq.refl n) (qn))))))))))))))))))))))))))))))))))))⟩
theorem sm_nil (o : List Int)
 (h1 : (([(0 : Int), (0 : Int), (0 : Int), (0 : Int), (0 : Int), (0 : Int), (0 : Int), (0 : Int), (0 : Int), (0 : Int), (0 : Int), (0 : Int), (0 : Int), (0 : Int), (0 : Int), (0 : Int), (0 : Int), (0 : Int), (0 : Int), (0 : Int), (0 : Int), (0 : Int), (0 : Int), (0 : Int), (0 : Int), (0 : Int), (0 : Int), (0 : Int), (0 : Int), (0 : Int), (0 : Int), (0 : Int)] : List Int) = o)) :
 ∃ ps, runO Tryd.prog DS gamS 100 Tryd.f55 ([], [.one .nilp]) [] (.v (.agg [.arr .u8 32 o])) [] = some ps ∧ AllQ ps := ⟨_, by kernel_rfl, qc h1 (qn)⟩
def padN (N : Nat) : Nat := (119 - N % 64) % 64
def tail0 : List Int := 128 :: List.replicate 71 0
def tailS (N : Nat) : Nat → List Int
  | 0 => tail0
  | i + 1 => (tailS N i).set ((1 + (padN N : Int)) + (i : Int)).toNat (IntKind.u8.wrap (Int.fdiv (IntKind.u64.wrap (IntKind.u64.wrap (N : Int) * 8)) (2 ^ min (56 - 8 * (i : Int)).toNat 64)))
def tailF (N : Nat) : List Int := (tailS N 8).take (padN N + 9)
def outS (s : List Int) : Nat → List Int
  | 0 => List.replicate 32 0
  | i + 1 => (outS s i).set (i : Int).toNat (IntKind.u8.wrap (Int.fdiv (s.getD (IntKind.i64.wrap (Int.tdiv (i : Int) 4)).toNat 0) (2 ^ min (24 - 8 * Int.tmod (i : Int) 4).toNat 32)))
def sumF (s r : List Int) (N : Nat) : List Int := outS (writeS s r N (tailF N)) 32
theorem tailS_len (N : Nat) : ∀ i, (tailS N i).length = 72
  | 0 => rfl
  | i + 1 => by simp [tailS, tailS_len N i]
theorem tailF_len (N : Nat) : (tailF N).length = padN N + 9 := by
  unfold tailF
  rw [List.length_take, tailS_len]
  unfold padN
  omega
theorem sm_loop1 (s r z : List Int) (N : Nat) : SumOK Tryd.prog DS (bodyN Tryd.f55 0) (loopL DS (smSn s r z tail0 N (padN N) [slI 20 (0 : Nat)]) (.exit 0) (smSn s r z (tailS N 8) N (padN N) [])) := by
  have hp : padN N < 64 := by unfold padN; omega
  refine sum_loop gamS_ok mixed (fun i => smSn s r z (tailS N i) N (padN N) [slI 20 i]) 8 rfl (fun i hi => ?_) ?_
  · exact ⟨_, _, _, sm_round s r z (tailS N i) (tailS N (i + 1)) N (padN N) i (decide_eq_true (by omega)) (inI64_small (by omega) (by omega)) (inI64_small (by omega) (by omega)) (inI64_small (by omega) (by omega)) (inI64_small (by omega) (by omega)) (by omega) (by omega) (by omega) (inI64_small (by omega) (by omega)) rfl⟩
  · exact ⟨_, _, _, sm_exit s r z (tailS N 8) N (padN N) 8 (decide_eq_false (by omega))⟩
theorem tdiv_small (i : Nat) : IntKind.i64.wrap (Int.tdiv (i : Int) 4) = ((i / 4 : Nat) : Int) ∨ 9223372036854775807 < i := by
  by_cases h : i ≤ 9223372036854775807
  · left
    rw [Int.tdiv_eq_ediv_of_nonneg (by omega)]
    have : ((i : Int) / 4) = ((i / 4 : Nat) : Int) := by omega
    rw [this, IntKind.wrap_i64]
    omega
  · right; omega
theorem tmod_nat (i k : Nat) : Int.tmod (i : Int) (k : Int) = ((i % k : Nat) : Int) := by
  rw [Int.tmod_eq_emod_of_nonneg (by omega)]; omega
theorem sm_loop2 (s r z s2 r2 : List Int) (n n2 : Int) : SumOK Tryd.prog DS (bodyN Tryd.f55 1) (loopL DS (sm2Sn s r z s2 r2 (outS s2 0) n n2 [slI 48 (0 : Nat)]) (.exit 2) (sm2Sn s r z s2 r2 (outS s2 32) n n2 [])) := by
  refine sum_loop gamS_ok mixed (fun i => sm2Sn s r z s2 r2 (outS s2 i) n n2 [slI 48 i]) 32 rfl (fun i hi => ?_) ?_
  · have hm : Int.tmod (i : Int) 4 = ((i % 4 : Nat) : Int) := tmod_nat i 4
    have hd : IntKind.i64.wrap (Int.tdiv (i : Int) 4) = ((i / 4 : Nat) : Int) := by
      rcases tdiv_small i with h | h
      · exact h
      · omega
    refine ⟨_, _, _, sm2_round s r z s2 r2 (outS s2 i) (outS s2 (i + 1)) n n2 i (decide_eq_true (by omega)) (by rw [hd]; omega) (by rw [hd]; omega) (by rw [hm]; exact inI64_small (by omega) (by omega)) (by rw [hm]; exact inI64_small (by omega) (by omega)) (by rw [hm]; omega) (by omega) (by omega) (inI64_small (by omega) (by omega)) rfl⟩
  · exact ⟨_, _, _, sm2_exit s r z s2 r2 (outS s2 32) n n2 32 (decide_eq_false (by omega))⟩
inductive HsT where
  | nil
  | one (s r : List Int) (n : Int)
def hsRd : List (BoxSt DS.τ) → List (A0 DS.τ) → Option HsT
  | [], [.one .nilp] => some .nil
  | [.fixed _ ps], [.one (.ref 0 0)] => match hashOf ps with
    | some (s, r, n) => some (.one s r n)
    | none => none
  | _, _ => none
def hsPre : HsT → List (BoxSt DS.τ) × List (A0 DS.τ)
  | .nil => ([], [.one .nilp])
  | .one s r n => ([.fixed 105 (hashP s r n)], [.one (.ref 0 0)])
def smPost : HsT → Option (AV DS.τ × List (BoxSt DS.τ) × List Prop)
  | .nil => some (.v (.agg [.arr .u8 32 (List.replicate 32 0)]), [], [])
  | .one s r n => some (.v (.agg [.arr .u8 32 (sumF s r n.toNat)]), [.fixed 105 (hashP s r n)], [0 ≤ n, n ≤ 4611686018427387904])
noncomputable def smD := mkF DS Tryd.f55.ntmps hsRd hsPre smPost
theorem sum_ok : OpOK Tryd.prog DS 55 smD := by
  refine opOK_mk gamS_ok mixed Tryd.func55 (enters_of Tryd.func55 (by kernel_rfl) rfl) ?_
  rintro (_ | ⟨s, r, n⟩) r' bs' ps h hps
  · simp only [smPost, Option.some.injEq, Prod.mk.injEq] at h
    obtain ⟨rfl, rfl, rfl⟩ := h
    exact ⟨_, _, sm_nil _ rfl⟩
  · simp only [smPost, Option.some.injEq, Prod.mk.injEq] at h
    obtain ⟨rfl, rfl, rfl⟩ := h
    have h0 : 0 ≤ n := hps _ (by simp)
    have h1 : n ≤ 4611686018427387904 := hps _ (by simp)
    obtain ⟨N, rfl⟩ : ∃ N : Nat, n = N := ⟨n.toNat, by omega⟩
    simp only [Int.toNat_natCast]
    have hm : Int.tmod (N : Int) 64 = ((N % 64 : Nat) : Int) := tmod_nat N 64
    have hp : padN N < 64 := by unfold padN; omega
    have hq : Int.tmod (119 - Int.tmod (N : Int) 64) 64 = (padN N : Int) := by
      rw [hm, show (119 - ((N % 64 : Nat) : Int)) = ((119 - N % 64 : Nat) : Int) from by omega]
      exact tmod_nat _ 64
    have ht : List.take ((Int.toNat ((1 + (padN N : Int)) + 8)) - Int.toNat 0) (List.drop (Int.toNat 0) (tailS N 8)) = tailF N := by
      unfold tailF
      rw [show (Int.toNat ((1 + (padN N : Int)) + 8)) - Int.toNat 0 = padN N + 9 from by omega]
      rfl
    refine ⟨_, _, sm_run s r (List.replicate 32 0) tail0 (tailS N 8) (writeS s r N (tailF N)) (writeR s r N (tailF N)) (sumF s r N) N ((N : Int) + (tailF N).length) (padN N) ?_ (sm_loop1 _ _ _ N) hq rfl rfl ?_ ?_ (by omega) (by omega) (by omega) ?_ (sm_loop2 _ _ _ _ _ _ _) ?_ ?_ ?_⟩
    · rw [hm]; exact inI64_small (by omega) (by omega)
    · exact inI64_small (by omega) (by omega)
    · exact inI64_small (by omega) (by omega)
    · erw [ht]; rw [tailF_len]; omega
    · erw [ht]; rfl
    · erw [ht]; rfl
    · erw [ht]
def zero8 : List Int := List.replicate 8 0
def zero64 : List Int := List.replicate 64 0
end Go.Num
namespace Go.Num
open Go.Abs Go.Proofs Go.Shelf
noncomputable def gamO : Gam DS := [(54, .op [true, false] wrD), (55, .op [true] smD)]
theorem gamO_ok : GamOK Tryd.prog DS gamO := gam_op write_ok (gam_op sum_ok gam_nil)
def ofSn (s r : List Int) (ll : List (List Int)) (n : Int) (sl : List (Nat × AV DS.τ)) : Sn DS.τ where
  slots := [(2, .v (.one (.ref 0 0))), (3, .v (.one (.ref 1 0))), (6, .v (.one (.wordss .u8 ll))), (7, .v (.one (.int .i64 false ll.length)))] ++ sl
  boxes := [(0, .fixed 97 [.arr .u8 32 (List.replicate 32 0)]), (1, .fixed 105 (hashP s r n))]
  nt := 16
theorem of_round (s r s' r' : List Int) (ll : List (List Int)) (n n' : Int) (i : Nat)
 (h1 : ((decide (((i : Nat) : Int) < (((List.length ll) : Nat) : Int))) = true))
 (h2 : ((0 : Int) ≤ ((i : Nat) : Int)))
 (h3 : (((i : Nat) : Int) < (((List.length ll) : Nat) : Int)))
 (h4 : ((0 : Int) ≤ n))
 (h5 : ((n + (((List.length (List.getD ll (Int.toNat ((i : Nat) : Int)) ([] : List (Int)))) : Nat) : Int)) ≤ (9223372036854775807 : Int)))
 (h6 : (InI64 (((i : Nat) : Int) + (1 : Int))))
 (h7 : ((writeS s r (Int.toNat n) (List.getD ll (Int.toNat ((i : Nat) : Int)) ([] : List (Int)))) = s'))
 (h8 : ((writeR s r (Int.toNat n) (List.getD ll (Int.toNat ((i : Nat) : Int)) ([] : List (Int)))) = r'))
 (h9 : ((n + (((List.length (List.getD ll (Int.toNat ((i : Nat) : Int)) ([] : List (Int)))) : Nat) : Int)) = n')) :
 ∃ ps, stepPs Tryd.prog DS gamO 100 (bodyN Tryd.f49 0) 100 (ofSn s r ll n [slI 8 i]).st [.is true] .normal (ofSn s' r' ll n' [slI 8 ((i : Int) + 1)]) = some ps ∧ AllQ ps := ⟨_, by kernel_rfl, qc h1 (qc h2 (qc h3 (qc (Eq.refl ((List.getD ll (Int.toNat ((i : Nat) : Int)) ([] : List (Int))))) (qc (Eq.refl s) (qc (Eq.refl r) (qc (Eq.refl n) (qc h4 (qc h5 (qc h6 (qc (Eq.refl ll) (qc (Eq.refl ((((List.length ll) : Nat) : Int))) (qc (Eq.refl ((((i : Nat) : Int) + (1 : Int)))) (qc (Eq.refl ((List.replicate (32 : Nat) (0 : Int)))) (qc h7 (qc h8 (qc h9 (qn)))))))))))))))))⟩
theorem of_exit (s r : List Int) (ll : List (List Int)) (n : Int) (i : Nat)
 (h1 : ((decide (((i : Nat) : Int) < (((List.length ll) : Nat) : Int))) = false)) :
 ∃ ps, stepPs Tryd.prog DS gamO 100 (bodyN Tryd.f49 0) 100 (ofSn s r ll n [slI 8 i]).st [.is false] (.exit 0) (ofSn s r ll n []) = some ps ∧ AllQ ps := ⟨_, by kernel_rfl, qc h1 (qc (Eq.refl ll) (qc (Eq.refl ((((List.length ll) : Nat) : Int))) (qc (Eq.refl ((List.replicate (32 : Nat) (0 : Int)))) (qc (Eq.refl s) (qc (Eq.refl r) (qc (Eq.refl n) (qn)))))))⟩
theorem of_run (s r z8 z64 : List Int) (ll : List (List Int)) (n : Int)
 (h1 : SumOK Tryd.prog DS (bodyN Tryd.f49 0) (loopL DS (ofSn z8 z64 ll 0 [slI 8 (0 : Nat)]) (.exit 0) (ofSn s r ll n [])))
 (h2 : (([(0 : Int), (0 : Int), (0 : Int), (0 : Int), (0 : Int), (0 : Int), (0 : Int), (0 : Int)] : List Int) = z8))
 (h3 : (([(0 : Int), (0 : Int), (0 : Int), (0 : Int), (0 : Int), (0 : Int), (0 : Int), (0 : Int), (0 : Int), (0 : Int), (0 : Int), (0 : Int), (0 : Int), (0 : Int), (0 : Int), (0 : Int), (0 : Int), (0 : Int), (0 : Int), (0 : Int), (0 : Int), (0 : Int), (0 : Int), (0 : Int), (0 : Int), (0 : Int), (0 : Int), (0 : Int), (0 : Int), (0 : Int), (0 : Int), (0 : Int), (0 : Int), (0 : Int), (0 : Int), (0 : Int), (0 : Int), (0 : Int), (0 : Int), (0 : Int), (0 : Int), (0 : Int), (0 : Int), (0 : Int), (0 : Int), (0 : Int), (0 : Int), (0 : Int), (0 : Int), (0 : Int), (0 : Int), (0 : Int), (0 : Int), (0 : Int), (0 : Int), (0 : Int), (0 : Int), (0 : Int), (0 : Int), (0 : Int), (0 : Int), (0 : Int), (0 : Int), (0 : Int)] : List Int) = z64))
 (h4 : ((0 : Int) ≤ n))
 (h5 : (n ≤ (4611686018427387904 : Int))) :
 ∃ ps, runF Tryd.prog DS gamO 100 Tryd.f49 [.one (.wordss .u8 ll)] [.loop (loopL DS (ofSn z8 z64 ll 0 [slI 8 (0 : Nat)]) (.exit 0) (ofSn s r ll n []))] = some ((AV.v (A0.agg [(Part.arr Go.IntKind.u8 (32 : Nat) (sumF s r (Int.toNat n)))])), ps) ∧ AllQ ps := ⟨_, by kernel_rfl, qc h1 (qc (Eq.refl ll) (qc (Eq.refl ((((List.length ll) : Nat) : Int))) (qc (show ((0 : Int) = (((0 : Nat) : Nat) : Int)) from by decide) (qc (show (([(0 : Int), (0 : Int), (0 : Int), (0 : Int), (0 : Int), (0 : Int), (0 : Int), (0 : Int), (0 : Int), (0 : Int), (0 : Int), (0 : Int), (0 : Int), (0 : Int), (0 : Int), (0 : Int), (0 : Int), (0 : Int), (0 : Int), (0 : Int), (0 : Int), (0 : Int), (0 : Int), (0 : Int), (0 : Int), (0 : Int), (0 : Int), (0 : Int), (0 : Int), (0 : Int), (0 : Int), (0 : Int)] : List Int) = (List.replicate (32 : Nat) (0 : Int))) from by decide) (qc h2 (qc h3 (qc (Eq.refl ((0 : Int))) (qc (Eq.refl s) (qc (Eq.refl r) (qc (Eq.refl n) (qc h4 (qc h5 (qn)))))))))))))⟩
def ofN (ll : List (List Int)) (k : Nat) : Nat := ((ll.take k).map List.length).sum
def ofSR (ll : List (List Int)) : Nat → List Int × List Int
  | 0 => (zero8, zero64)
  | k + 1 => (writeS (ofSR ll k).1 (ofSR ll k).2 (ofN ll k) (ll.getD k []), writeR (ofSR ll k).1 (ofSR ll k).2 (ofN ll k) (ll.getD k []))
def ofF (ll : List (List Int)) : List Int := sumF (ofSR ll ll.length).1 (ofSR ll ll.length).2 (ofN ll ll.length)
theorem ofN_succ {ll : List (List Int)} {k : Nat} (h : k < ll.length) : ofN ll (k + 1) = ofN ll k + (ll.getD k []).length := by
  unfold ofN
  rw [List.take_succ_eq_append_getElem h, List.map_append, List.sum_append, List.getD_eq_getElem?_getD, List.getElem?_eq_getElem h]
  simp
theorem ofN_le {ll : List (List Int)} : ∀ {k : Nat}, k ≤ ll.length → ofN ll k ≤ ofN ll ll.length := by
  intro k hk
  induction hd : ll.length - k generalizing k with
  | zero => rw [show k = ll.length from by omega]; exact Nat.le_refl _
  | succ d ih =>
    have := ih (k := k + 1) (by omega) (by omega)
    rw [ofN_succ (by omega)] at this
    omega
def ofD : FnD DS
  | [.one (.wordss .u8 ll)] => some (.v (.agg [.arr .u8 32 (ofF ll)]), [ofN ll ll.length ≤ 4611686018427387904, ll.length ≤ 9223372036854775807])
  | _ => none
theorem of_loop (ll : List (List Int)) (h : ofN ll ll.length ≤ 4611686018427387904) (hl : ll.length ≤ 9223372036854775807) : SumOK Tryd.prog DS (bodyN Tryd.f49 0) (loopL DS (ofSn zero8 zero64 ll 0 [slI 8 (0 : Nat)]) (.exit 0) (ofSn (ofSR ll ll.length).1 (ofSR ll ll.length).2 ll (ofN ll ll.length) [])) := by
  have hs := sum_loop gamO_ok mixed (c := bodyN Tryd.f49 0) (fun k => ofSn (ofSR ll k).1 (ofSR ll k).2 ll (ofN ll k) [slI 8 k]) ll.length (e := .exit 0) (s := ofSn (ofSR ll ll.length).1 (ofSR ll ll.length).2 ll (ofN ll ll.length) []) rfl (fun k hk => ?_) ?_
  · exact hs
  · have h1 := ofN_succ hk
    have h2 := ofN_le (ll := ll) (k := k + 1) (by omega)
    refine ⟨_, _, _, of_round (ofSR ll k).1 (ofSR ll k).2 (ofSR ll (k + 1)).1 (ofSR ll (k + 1)).2 ll (ofN ll k) (ofN ll (k + 1)) k (decide_eq_true (by omega)) (by omega) (by omega) (by omega) ?_ ⟨by omega, by omega⟩ rfl rfl ?_⟩
    · rw [Int.toNat_natCast]; omega
    · rw [Int.toNat_natCast]; omega
  · exact ⟨_, _, _, of_exit _ _ ll _ ll.length (decide_eq_false (by omega))⟩
theorem of_ok : FnOK Tryd.prog DS 49 ofD := by
  refine fnOK_of gamO_ok mixed Tryd.func49 (enters_of Tryd.func49 (by kernel_rfl) rfl) ?_
  intro xs r ps h hps
  unfold ofD at h
  split at h
  · rename_i ll
    simp only [Option.some.injEq, Prod.mk.injEq] at h
    obtain ⟨rfl, rfl⟩ := h
    have h1 : ofN ll ll.length ≤ 4611686018427387904 := hps _ (by simp)
    have h2 : ll.length ≤ 9223372036854775807 := hps _ (by simp)
    obtain ⟨qs, q1, q2⟩ := of_run (ofSR ll ll.length).1 (ofSR ll ll.length).2 zero8 zero64 ll (ofN ll ll.length) (of_loop ll h1 h2) rfl rfl (by omega) (by omega)
    exact ⟨_, _, _, _, _, fun w vs hx => hx, q1, q2, fun E v hv => hv⟩
  · cases h
end Go.Num
namespace Go.Num
open Go.Abs Go.Proofs Go.Shelf
end Go.Num
namespace Go.Num
open Go.Abs Go.Proofs Go.Shelf
end Go.Num
namespace Go.Num
open Go.Abs Go.Proofs Go.Shelf
end Go.Num
namespace Go.Num
open Go.Abs Go.Proofs Go.Shelf
structure Took (all s r : List Int) : Prop where
  len : r.length = 64
  state : all.length ≠ 0 → s = eat firstL all (all.length / 64)
  rest : r.take (all.length % 64) = all.drop (64 * (all.length / 64))
theorem set_at {a b : List Int} {x y : Int} {i : Nat} (h : i = a.length) : (a ++ y :: b).set i x = a ++ x :: b := by
  subst h
  rw [List.set_append_right _ _ (Nat.le_refl _), Nat.sub_self, List.set_cons_zero]
def ob (s : List Int) (i : Nat) : Int := IntKind.u8.wrap (Int.fdiv (s.getD (i / 4) 0) (2 ^ (24 - 8 * (i % 4))))
theorem outS_eq (s : List Int) : ∀ i, i ≤ 32 → outS s i = (List.range i).map (ob s) ++ List.replicate (32 - i) 0
  | 0, _ => by simp [outS]
  | i + 1, hi => by
    show (outS s i).set _ _ = _
    rw [outS_eq s i (by omega), show 32 - i = (32 - (i + 1)) + 1 from by omega, List.replicate_succ, Int.toNat_natCast, set_at (by simp), List.range_succ]
    have hd : IntKind.i64.wrap (Int.tdiv (i : Int) 4) = ((i / 4 : Nat) : Int) := by
      rcases tdiv_small i with h | h
      · exact h
      · omega
    have hm : Int.tmod (i : Int) 4 = ((i % 4 : Nat) : Int) := tmod_nat i 4
    have e : IntKind.u8.wrap (Int.fdiv (s.getD (IntKind.i64.wrap (Int.tdiv (i : Int) 4)).toNat 0) (2 ^ min (24 - 8 * Int.tmod (i : Int) 4).toNat 32)) = ob s i := by
      unfold ob
      rw [hd, hm, Int.toNat_natCast, show min (24 - 8 * ((i % 4 : Nat) : Int)).toNat 32 = 24 - 8 * (i % 4) from by omega]
    rw [e]
    simp
end Go.Num
namespace Go.Num
open Go.Abs Go.Proofs Go.Shelf Go.RowKit
theorem ofF_len (l : List (List Int)) : (ofF l).length = 32 := by
  unfold ofF sumF
  rw [outS_eq _ 32 (by decide)]
  simp
noncomputable def gCs : Gam DF := [(49, .fn ofD)]
theorem gCs_ok : GamOK Tryd.prog DF gCs := gam_cons of_ok gam_nil
def sumL (l : List Int) : List Int := (ofF [l]).take 8
theorem sumL_len (l : List Int) : (sumL l).length = 8 := by unfold sumL; rw [List.length_take, ofF_len]; rfl
theorem cs_run (l o : List Int)
 (h1 : ((List.foldr (fun x1 x2 => x1 + x2) (0 : Nat) ([(List.length l)] : List Nat)) ≤ (4611686018427387904 : Nat)))
 (h2 : ((1 : Nat) ≤ (9223372036854775807 : Nat))) :
 ∃ ps, runF Tryd.prog DF gCs 100 Tryd.f40 [.one (.words .u8 l)] [] = some ((AV.v (A0.agg [(Part.arr Go.IntKind.u8 ((Go.TypeInfo.mk (Go.TypeDesc.array (8 : Nat) (5 : Nat)) "[8]uint8" (8 : Nat) (8 : Nat) false (1 : Nat) (1 : Nat) (Option.some (Go.Value.agg (Array.mk [(Go.Value.int Go.IntKind.u8 (0 : Int)), (Go.Value.int Go.IntKind.u8 (0 : Int)), (Go.Value.int Go.IntKind.u8 (0 : Int)), (Go.Value.int Go.IntKind.u8 (0 : Int)), (Go.Value.int Go.IntKind.u8 (0 : Int)), (Go.Value.int Go.IntKind.u8 (0 : Int)), (Go.Value.int Go.IntKind.u8 (0 : Int)), (Go.Value.int Go.IntKind.u8 (0 : Int))]))) true (Array.mk ([] : List (Method))))).3 (List.take ((Go.TypeInfo.mk (Go.TypeDesc.array (8 : Nat) (5 : Nat)) "[8]uint8" (8 : Nat) (8 : Nat) false (1 : Nat) (1 : Nat) (Option.some (Go.Value.agg (Array.mk [(Go.Value.int Go.IntKind.u8 (0 : Int)), (Go.Value.int Go.IntKind.u8 (0 : Int)), (Go.Value.int Go.IntKind.u8 (0 : Int)), (Go.Value.int Go.IntKind.u8 (0 : Int)), (Go.Value.int Go.IntKind.u8 (0 : Int)), (Go.Value.int Go.IntKind.u8 (0 : Int)), (Go.Value.int Go.IntKind.u8 (0 : Int)), (Go.Value.int Go.IntKind.u8 (0 : Int))]))) true (Array.mk ([] : List (Method))))).3 (ofF [l])))])), ps) ∧ AllQ ps := ⟨_, by kernel_rfl, qc h1 (qc h2 (qc (show ((0 : Int) ≤ (0 : Int)) from by decide) (qc (show ((0 : Int) ≤ (8 : Int)) from by decide) (qc (show ((8 : Int) ≤ (((32 : Nat) : Nat) : Int)) from by decide) (qc (show ((0 : Int) < (((32 : Nat) : Nat) : Int)) from by decide) (qc (show ((8 : Nat) ≤ ((8 : Nat) - (0 : Nat))) from by decide) (qn)))))))⟩
def rndB (r : Int) : List Int := [IntKind.u8.wrap (r.fdiv (2 ^ min 56 64)), IntKind.u8.wrap (r.fdiv (2 ^ min 48 64)), IntKind.u8.wrap (r.fdiv (2 ^ min 40 64)), IntKind.u8.wrap (r.fdiv (2 ^ min 32 64)), IntKind.u8.wrap (r.fdiv (2 ^ min 24 64)), IntKind.u8.wrap (r.fdiv (2 ^ min 16 64)), IntKind.u8.wrap (r.fdiv (2 ^ min 8 64)), IntKind.u8.wrap (r.fdiv (2 ^ min 0 64))]
def bodyL (r : Int) (s : List Int) : List Int := rndB r ++ s
def frameL (r : Int) (s : List Int) : List Int := bodyL r s ++ sumL (bodyL r s)
def csD : FnD DF
  | [.one (.words .u8 l)] => some (.v (.agg [.arr .u8 8 (sumL l)]), [l.length ≤ 4611686018427387904])
  | _ => none
noncomputable def gCw : Gam DF := [(40, .fn csD)]
theorem cw_run (r : Int) (s : List Int)
 (h1 : (((List.length (List.replicate (0 : Nat) (0 : Int))) + (1 : Nat)) ≤ (9223372036854775807 : Nat)))
 (h2 : ((((List.length (List.replicate (0 : Nat) (0 : Int))) + (1 : Nat)) * (1 : Nat)) ≤ (140737488355328 : Nat)))
 (h3 : (((List.length ((List.replicate (0 : Nat) (0 : Int)) ++ ([(Go.IntKind.wrap Go.IntKind.u8 (Int.fdiv r ((2 : Int) ^ (min (56 : Nat) (64 : Nat)))))] : List Int))) + (1 : Nat)) ≤ (9223372036854775807 : Nat)))
 (h4 : ((((List.length ((List.replicate (0 : Nat) (0 : Int)) ++ ([(Go.IntKind.wrap Go.IntKind.u8 (Int.fdiv r ((2 : Int) ^ (min (56 : Nat) (64 : Nat)))))] : List Int))) + (1 : Nat)) * (1 : Nat)) ≤ (140737488355328 : Nat)))
 (h5 : (((List.length (((List.replicate (0 : Nat) (0 : Int)) ++ ([(Go.IntKind.wrap Go.IntKind.u8 (Int.fdiv r ((2 : Int) ^ (min (56 : Nat) (64 : Nat)))))] : List Int)) ++ ([(Go.IntKind.wrap Go.IntKind.u8 (Int.fdiv r ((2 : Int) ^ (min (48 : Nat) (64 : Nat)))))] : List Int))) + (1 : Nat)) ≤ (9223372036854775807 : Nat)))
 (h6 : ((((List.length (((List.replicate (0 : Nat) (0 : Int)) ++ ([(Go.IntKind.wrap Go.IntKind.u8 (Int.fdiv r ((2 : Int) ^ (min (56 : Nat) (64 : Nat)))))] : List Int)) ++ ([(Go.IntKind.wrap Go.IntKind.u8 (Int.fdiv r ((2 : Int) ^ (min (48 : Nat) (64 : Nat)))))] : List Int))) + (1 : Nat)) * (1 : Nat)) ≤ (140737488355328 : Nat)))
 (h7 : (((List.length ((((List.replicate (0 : Nat) (0 : Int)) ++ ([(Go.IntKind.wrap Go.IntKind.u8 (Int.fdiv r ((2 : Int) ^ (min (56 : Nat) (64 : Nat)))))] : List Int)) ++ ([(Go.IntKind.wrap Go.IntKind.u8 (Int.fdiv r ((2 : Int) ^ (min (48 : Nat) (64 : Nat)))))] : List Int)) ++ ([(Go.IntKind.wrap Go.IntKind.u8 (Int.fdiv r ((2 : Int) ^ (min (40 : Nat) (64 : Nat)))))] : List Int))) + (1 : Nat)) ≤ (9223372036854775807 : Nat)))
 (h8 : ((((List.length ((((List.replicate (0 : Nat) (0 : Int)) ++ ([(Go.IntKind.wrap Go.IntKind.u8 (Int.fdiv r ((2 : Int) ^ (min (56 : Nat) (64 : Nat)))))] : List Int)) ++ ([(Go.IntKind.wrap Go.IntKind.u8 (Int.fdiv r ((2 : Int) ^ (min (48 : Nat) (64 : Nat)))))] : List Int)) ++ ([(Go.IntKind.wrap Go.IntKind.u8 (Int.fdiv r ((2 : Int) ^ (min (40 : Nat) (64 : Nat)))))] : List Int))) + (1 : Nat)) * (1 : Nat)) ≤ (140737488355328 : Nat)))
 (h9 : (((List.length (((((List.replicate (0 : Nat) (0 : Int)) ++ ([(Go.IntKind.wrap Go.IntKind.u8 (Int.fdiv r ((2 : Int) ^ (min (56 : Nat) (64 : Nat)))))] : List Int)) ++ ([(Go.IntKind.wrap Go.IntKind.u8 (Int.fdiv r ((2 : Int) ^ (min (48 : Nat) (64 : Nat)))))] : List Int)) ++ ([(Go.IntKind.wrap Go.IntKind.u8 (Int.fdiv r ((2 : Int) ^ (min (40 : Nat) (64 : Nat)))))] : List Int)) ++ ([(Go.IntKind.wrap Go.IntKind.u8 (Int.fdiv r ((2 : Int) ^ (min (32 : Nat) (64 : Nat)))))] : List Int))) + (1 : Nat)) ≤ (9223372036854775807 : Nat)))
 (h10 : ((((List.length (((((List.replicate (0 : Nat) (0 : Int)) ++ ([(Go.IntKind.wrap Go.IntKind.u8 (Int.fdiv r ((2 : Int) ^ (min (56 : Nat) (64 : Nat)))))] : List Int)) ++ ([(Go.IntKind.wrap Go.IntKind.u8 (Int.fdiv r ((2 : Int) ^ (min (48 : Nat) (64 : Nat)))))] : List Int)) ++ ([(Go.IntKind.wrap Go.IntKind.u8 (Int.fdiv r ((2 : Int) ^ (min (40 : Nat) (64 : Nat)))))] : List Int)) ++ ([(Go.IntKind.wrap Go.IntKind.u8 (Int.fdiv r ((2 : Int) ^ (min (32 : Nat) (64 : Nat)))))] : List Int))) + (1 : Nat)) * (1 : Nat)) ≤ (140737488355328 : Nat)))
 (h11 : (((List.length ((((((List.replicate (0 : Nat) (0 : Int)) ++ ([(Go.IntKind.wrap Go.IntKind.u8 (Int.fdiv r ((2 : Int) ^ (min (56 : Nat) (64 : Nat)))))] : List Int)) ++ ([(Go.IntKind.wrap Go.IntKind.u8 (Int.fdiv r ((2 : Int) ^ (min (48 : Nat) (64 : Nat)))))] : List Int)) ++ ([(Go.IntKind.wrap Go.IntKind.u8 (Int.fdiv r ((2 : Int) ^ (min (40 : Nat) (64 : Nat)))))] : List Int)) ++ ([(Go.IntKind.wrap Go.IntKind.u8 (Int.fdiv r ((2 : Int) ^ (min (32 : Nat) (64 : Nat)))))] : List Int)) ++ ([(Go.IntKind.wrap Go.IntKind.u8 (Int.fdiv r ((2 : Int) ^ (min (24 : Nat) (64 : Nat)))))] : List Int))) + (1 : Nat)) ≤ (9223372036854775807 : Nat)))
 (h12 : ((((List.length ((((((List.replicate (0 : Nat) (0 : Int)) ++ ([(Go.IntKind.wrap Go.IntKind.u8 (Int.fdiv r ((2 : Int) ^ (min (56 : Nat) (64 : Nat)))))] : List Int)) ++ ([(Go.IntKind.wrap Go.IntKind.u8 (Int.fdiv r ((2 : Int) ^ (min (48 : Nat) (64 : Nat)))))] : List Int)) ++ ([(Go.IntKind.wrap Go.IntKind.u8 (Int.fdiv r ((2 : Int) ^ (min (40 : Nat) (64 : Nat)))))] : List Int)) ++ ([(Go.IntKind.wrap Go.IntKind.u8 (Int.fdiv r ((2 : Int) ^ (min (32 : Nat) (64 : Nat)))))] : List Int)) ++ ([(Go.IntKind.wrap Go.IntKind.u8 (Int.fdiv r ((2 : Int) ^ (min (24 : Nat) (64 : Nat)))))] : List Int))) + (1 : Nat)) * (1 : Nat)) ≤ (140737488355328 : Nat)))
 (h13 : (((List.length (((((((List.replicate (0 : Nat) (0 : Int)) ++ ([(Go.IntKind.wrap Go.IntKind.u8 (Int.fdiv r ((2 : Int) ^ (min (56 : Nat) (64 : Nat)))))] : List Int)) ++ ([(Go.IntKind.wrap Go.IntKind.u8 (Int.fdiv r ((2 : Int) ^ (min (48 : Nat) (64 : Nat)))))] : List Int)) ++ ([(Go.IntKind.wrap Go.IntKind.u8 (Int.fdiv r ((2 : Int) ^ (min (40 : Nat) (64 : Nat)))))] : List Int)) ++ ([(Go.IntKind.wrap Go.IntKind.u8 (Int.fdiv r ((2 : Int) ^ (min (32 : Nat) (64 : Nat)))))] : List Int)) ++ ([(Go.IntKind.wrap Go.IntKind.u8 (Int.fdiv r ((2 : Int) ^ (min (24 : Nat) (64 : Nat)))))] : List Int)) ++ ([(Go.IntKind.wrap Go.IntKind.u8 (Int.fdiv r ((2 : Int) ^ (min (16 : Nat) (64 : Nat)))))] : List Int))) + (1 : Nat)) ≤ (9223372036854775807 : Nat)))
 (h14 : ((((List.length (((((((List.replicate (0 : Nat) (0 : Int)) ++ ([(Go.IntKind.wrap Go.IntKind.u8 (Int.fdiv r ((2 : Int) ^ (min (56 : Nat) (64 : Nat)))))] : List Int)) ++ ([(Go.IntKind.wrap Go.IntKind.u8 (Int.fdiv r ((2 : Int) ^ (min (48 : Nat) (64 : Nat)))))] : List Int)) ++ ([(Go.IntKind.wrap Go.IntKind.u8 (Int.fdiv r ((2 : Int) ^ (min (40 : Nat) (64 : Nat)))))] : List Int)) ++ ([(Go.IntKind.wrap Go.IntKind.u8 (Int.fdiv r ((2 : Int) ^ (min (32 : Nat) (64 : Nat)))))] : List Int)) ++ ([(Go.IntKind.wrap Go.IntKind.u8 (Int.fdiv r ((2 : Int) ^ (min (24 : Nat) (64 : Nat)))))] : List Int)) ++ ([(Go.IntKind.wrap Go.IntKind.u8 (Int.fdiv r ((2 : Int) ^ (min (16 : Nat) (64 : Nat)))))] : List Int))) + (1 : Nat)) * (1 : Nat)) ≤ (140737488355328 : Nat)))
 (h15 : (((List.length ((((((((List.replicate (0 : Nat) (0 : Int)) ++ ([(Go.IntKind.wrap Go.IntKind.u8 (Int.fdiv r ((2 : Int) ^ (min (56 : Nat) (64 : Nat)))))] : List Int)) ++ ([(Go.IntKind.wrap Go.IntKind.u8 (Int.fdiv r ((2 : Int) ^ (min (48 : Nat) (64 : Nat)))))] : List Int)) ++ ([(Go.IntKind.wrap Go.IntKind.u8 (Int.fdiv r ((2 : Int) ^ (min (40 : Nat) (64 : Nat)))))] : List Int)) ++ ([(Go.IntKind.wrap Go.IntKind.u8 (Int.fdiv r ((2 : Int) ^ (min (32 : Nat) (64 : Nat)))))] : List Int)) ++ ([(Go.IntKind.wrap Go.IntKind.u8 (Int.fdiv r ((2 : Int) ^ (min (24 : Nat) (64 : Nat)))))] : List Int)) ++ ([(Go.IntKind.wrap Go.IntKind.u8 (Int.fdiv r ((2 : Int) ^ (min (16 : Nat) (64 : Nat)))))] : List Int)) ++ ([(Go.IntKind.wrap Go.IntKind.u8 (Int.fdiv r ((2 : Int) ^ (min (8 : Nat) (64 : Nat)))))] : List Int))) + (1 : Nat)) ≤ (9223372036854775807 : Nat)))
 (h16 : ((((List.length ((((((((List.replicate (0 : Nat) (0 : Int)) ++ ([(Go.IntKind.wrap Go.IntKind.u8 (Int.fdiv r ((2 : Int) ^ (min (56 : Nat) (64 : Nat)))))] : List Int)) ++ ([(Go.IntKind.wrap Go.IntKind.u8 (Int.fdiv r ((2 : Int) ^ (min (48 : Nat) (64 : Nat)))))] : List Int)) ++ ([(Go.IntKind.wrap Go.IntKind.u8 (Int.fdiv r ((2 : Int) ^ (min (40 : Nat) (64 : Nat)))))] : List Int)) ++ ([(Go.IntKind.wrap Go.IntKind.u8 (Int.fdiv r ((2 : Int) ^ (min (32 : Nat) (64 : Nat)))))] : List Int)) ++ ([(Go.IntKind.wrap Go.IntKind.u8 (Int.fdiv r ((2 : Int) ^ (min (24 : Nat) (64 : Nat)))))] : List Int)) ++ ([(Go.IntKind.wrap Go.IntKind.u8 (Int.fdiv r ((2 : Int) ^ (min (16 : Nat) (64 : Nat)))))] : List Int)) ++ ([(Go.IntKind.wrap Go.IntKind.u8 (Int.fdiv r ((2 : Int) ^ (min (8 : Nat) (64 : Nat)))))] : List Int))) + (1 : Nat)) * (1 : Nat)) ≤ (140737488355328 : Nat)))
 (h17 : (((List.length (((((((((List.replicate (0 : Nat) (0 : Int)) ++ ([(Go.IntKind.wrap Go.IntKind.u8 (Int.fdiv r ((2 : Int) ^ (min (56 : Nat) (64 : Nat)))))] : List Int)) ++ ([(Go.IntKind.wrap Go.IntKind.u8 (Int.fdiv r ((2 : Int) ^ (min (48 : Nat) (64 : Nat)))))] : List Int)) ++ ([(Go.IntKind.wrap Go.IntKind.u8 (Int.fdiv r ((2 : Int) ^ (min (40 : Nat) (64 : Nat)))))] : List Int)) ++ ([(Go.IntKind.wrap Go.IntKind.u8 (Int.fdiv r ((2 : Int) ^ (min (32 : Nat) (64 : Nat)))))] : List Int)) ++ ([(Go.IntKind.wrap Go.IntKind.u8 (Int.fdiv r ((2 : Int) ^ (min (24 : Nat) (64 : Nat)))))] : List Int)) ++ ([(Go.IntKind.wrap Go.IntKind.u8 (Int.fdiv r ((2 : Int) ^ (min (16 : Nat) (64 : Nat)))))] : List Int)) ++ ([(Go.IntKind.wrap Go.IntKind.u8 (Int.fdiv r ((2 : Int) ^ (min (8 : Nat) (64 : Nat)))))] : List Int)) ++ ([(Go.IntKind.wrap Go.IntKind.u8 (Int.fdiv r ((2 : Int) ^ (min (0 : Nat) (64 : Nat)))))] : List Int))) + (List.length (List.take ((96 : Nat) - (0 : Nat)) (List.drop (0 : Nat) s)))) ≤ (9223372036854775807 : Nat)))
 (h18 : ((((List.length (((((((((List.replicate (0 : Nat) (0 : Int)) ++ ([(Go.IntKind.wrap Go.IntKind.u8 (Int.fdiv r ((2 : Int) ^ (min (56 : Nat) (64 : Nat)))))] : List Int)) ++ ([(Go.IntKind.wrap Go.IntKind.u8 (Int.fdiv r ((2 : Int) ^ (min (48 : Nat) (64 : Nat)))))] : List Int)) ++ ([(Go.IntKind.wrap Go.IntKind.u8 (Int.fdiv r ((2 : Int) ^ (min (40 : Nat) (64 : Nat)))))] : List Int)) ++ ([(Go.IntKind.wrap Go.IntKind.u8 (Int.fdiv r ((2 : Int) ^ (min (32 : Nat) (64 : Nat)))))] : List Int)) ++ ([(Go.IntKind.wrap Go.IntKind.u8 (Int.fdiv r ((2 : Int) ^ (min (24 : Nat) (64 : Nat)))))] : List Int)) ++ ([(Go.IntKind.wrap Go.IntKind.u8 (Int.fdiv r ((2 : Int) ^ (min (16 : Nat) (64 : Nat)))))] : List Int)) ++ ([(Go.IntKind.wrap Go.IntKind.u8 (Int.fdiv r ((2 : Int) ^ (min (8 : Nat) (64 : Nat)))))] : List Int)) ++ ([(Go.IntKind.wrap Go.IntKind.u8 (Int.fdiv r ((2 : Int) ^ (min (0 : Nat) (64 : Nat)))))] : List Int))) + (List.length (List.take ((96 : Nat) - (0 : Nat)) (List.drop (0 : Nat) s)))) * (1 : Nat)) ≤ (140737488355328 : Nat)))
 (h19 : ((List.length ((((((((((List.replicate (0 : Nat) (0 : Int)) ++ ([(Go.IntKind.wrap Go.IntKind.u8 (Int.fdiv r ((2 : Int) ^ (min (56 : Nat) (64 : Nat)))))] : List Int)) ++ ([(Go.IntKind.wrap Go.IntKind.u8 (Int.fdiv r ((2 : Int) ^ (min (48 : Nat) (64 : Nat)))))] : List Int)) ++ ([(Go.IntKind.wrap Go.IntKind.u8 (Int.fdiv r ((2 : Int) ^ (min (40 : Nat) (64 : Nat)))))] : List Int)) ++ ([(Go.IntKind.wrap Go.IntKind.u8 (Int.fdiv r ((2 : Int) ^ (min (32 : Nat) (64 : Nat)))))] : List Int)) ++ ([(Go.IntKind.wrap Go.IntKind.u8 (Int.fdiv r ((2 : Int) ^ (min (24 : Nat) (64 : Nat)))))] : List Int)) ++ ([(Go.IntKind.wrap Go.IntKind.u8 (Int.fdiv r ((2 : Int) ^ (min (16 : Nat) (64 : Nat)))))] : List Int)) ++ ([(Go.IntKind.wrap Go.IntKind.u8 (Int.fdiv r ((2 : Int) ^ (min (8 : Nat) (64 : Nat)))))] : List Int)) ++ ([(Go.IntKind.wrap Go.IntKind.u8 (Int.fdiv r ((2 : Int) ^ (min (0 : Nat) (64 : Nat)))))] : List Int)) ++ (List.take ((96 : Nat) - (0 : Nat)) (List.drop (0 : Nat) s)))) ≤ (4611686018427387904 : Nat)))
 (h20 : (((List.length ((((((((((List.replicate (0 : Nat) (0 : Int)) ++ ([(Go.IntKind.wrap Go.IntKind.u8 (Int.fdiv r ((2 : Int) ^ (min (56 : Nat) (64 : Nat)))))] : List Int)) ++ ([(Go.IntKind.wrap Go.IntKind.u8 (Int.fdiv r ((2 : Int) ^ (min (48 : Nat) (64 : Nat)))))] : List Int)) ++ ([(Go.IntKind.wrap Go.IntKind.u8 (Int.fdiv r ((2 : Int) ^ (min (40 : Nat) (64 : Nat)))))] : List Int)) ++ ([(Go.IntKind.wrap Go.IntKind.u8 (Int.fdiv r ((2 : Int) ^ (min (32 : Nat) (64 : Nat)))))] : List Int)) ++ ([(Go.IntKind.wrap Go.IntKind.u8 (Int.fdiv r ((2 : Int) ^ (min (24 : Nat) (64 : Nat)))))] : List Int)) ++ ([(Go.IntKind.wrap Go.IntKind.u8 (Int.fdiv r ((2 : Int) ^ (min (16 : Nat) (64 : Nat)))))] : List Int)) ++ ([(Go.IntKind.wrap Go.IntKind.u8 (Int.fdiv r ((2 : Int) ^ (min (8 : Nat) (64 : Nat)))))] : List Int)) ++ ([(Go.IntKind.wrap Go.IntKind.u8 (Int.fdiv r ((2 : Int) ^ (min (0 : Nat) (64 : Nat)))))] : List Int)) ++ (List.take ((96 : Nat) - (0 : Nat)) (List.drop (0 : Nat) s)))) + (List.length (List.take ((8 : Nat) - (0 : Nat)) (List.drop (0 : Nat) (sumL ((((((((((List.replicate (0 : Nat) (0 : Int)) ++ ([(Go.IntKind.wrap Go.IntKind.u8 (Int.fdiv r ((2 : Int) ^ (min (56 : Nat) (64 : Nat)))))] : List Int)) ++ ([(Go.IntKind.wrap Go.IntKind.u8 (Int.fdiv r ((2 : Int) ^ (min (48 : Nat) (64 : Nat)))))] : List Int)) ++ ([(Go.IntKind.wrap Go.IntKind.u8 (Int.fdiv r ((2 : Int) ^ (min (40 : Nat) (64 : Nat)))))] : List Int)) ++ ([(Go.IntKind.wrap Go.IntKind.u8 (Int.fdiv r ((2 : Int) ^ (min (32 : Nat) (64 : Nat)))))] : List Int)) ++ ([(Go.IntKind.wrap Go.IntKind.u8 (Int.fdiv r ((2 : Int) ^ (min (24 : Nat) (64 : Nat)))))] : List Int)) ++ ([(Go.IntKind.wrap Go.IntKind.u8 (Int.fdiv r ((2 : Int) ^ (min (16 : Nat) (64 : Nat)))))] : List Int)) ++ ([(Go.IntKind.wrap Go.IntKind.u8 (Int.fdiv r ((2 : Int) ^ (min (8 : Nat) (64 : Nat)))))] : List Int)) ++ ([(Go.IntKind.wrap Go.IntKind.u8 (Int.fdiv r ((2 : Int) ^ (min (0 : Nat) (64 : Nat)))))] : List Int)) ++ (List.take ((96 : Nat) - (0 : Nat)) (List.drop (0 : Nat) s)))))))) ≤ (9223372036854775807 : Nat)))
 (h21 : ((((List.length ((((((((((List.replicate (0 : Nat) (0 : Int)) ++ ([(Go.IntKind.wrap Go.IntKind.u8 (Int.fdiv r ((2 : Int) ^ (min (56 : Nat) (64 : Nat)))))] : List Int)) ++ ([(Go.IntKind.wrap Go.IntKind.u8 (Int.fdiv r ((2 : Int) ^ (min (48 : Nat) (64 : Nat)))))] : List Int)) ++ ([(Go.IntKind.wrap Go.IntKind.u8 (Int.fdiv r ((2 : Int) ^ (min (40 : Nat) (64 : Nat)))))] : List Int)) ++ ([(Go.IntKind.wrap Go.IntKind.u8 (Int.fdiv r ((2 : Int) ^ (min (32 : Nat) (64 : Nat)))))] : List Int)) ++ ([(Go.IntKind.wrap Go.IntKind.u8 (Int.fdiv r ((2 : Int) ^ (min (24 : Nat) (64 : Nat)))))] : List Int)) ++ ([(Go.IntKind.wrap Go.IntKind.u8 (Int.fdiv r ((2 : Int) ^ (min (16 : Nat) (64 : Nat)))))] : List Int)) ++ ([(Go.IntKind.wrap Go.IntKind.u8 (Int.fdiv r ((2 : Int) ^ (min (8 : Nat) (64 : Nat)))))] : List Int)) ++ ([(Go.IntKind.wrap Go.IntKind.u8 (Int.fdiv r ((2 : Int) ^ (min (0 : Nat) (64 : Nat)))))] : List Int)) ++ (List.take ((96 : Nat) - (0 : Nat)) (List.drop (0 : Nat) s)))) + (List.length (List.take ((8 : Nat) - (0 : Nat)) (List.drop (0 : Nat) (sumL ((((((((((List.replicate (0 : Nat) (0 : Int)) ++ ([(Go.IntKind.wrap Go.IntKind.u8 (Int.fdiv r ((2 : Int) ^ (min (56 : Nat) (64 : Nat)))))] : List Int)) ++ ([(Go.IntKind.wrap Go.IntKind.u8 (Int.fdiv r ((2 : Int) ^ (min (48 : Nat) (64 : Nat)))))] : List Int)) ++ ([(Go.IntKind.wrap Go.IntKind.u8 (Int.fdiv r ((2 : Int) ^ (min (40 : Nat) (64 : Nat)))))] : List Int)) ++ ([(Go.IntKind.wrap Go.IntKind.u8 (Int.fdiv r ((2 : Int) ^ (min (32 : Nat) (64 : Nat)))))] : List Int)) ++ ([(Go.IntKind.wrap Go.IntKind.u8 (Int.fdiv r ((2 : Int) ^ (min (24 : Nat) (64 : Nat)))))] : List Int)) ++ ([(Go.IntKind.wrap Go.IntKind.u8 (Int.fdiv r ((2 : Int) ^ (min (16 : Nat) (64 : Nat)))))] : List Int)) ++ ([(Go.IntKind.wrap Go.IntKind.u8 (Int.fdiv r ((2 : Int) ^ (min (8 : Nat) (64 : Nat)))))] : List Int)) ++ ([(Go.IntKind.wrap Go.IntKind.u8 (Int.fdiv r ((2 : Int) ^ (min (0 : Nat) (64 : Nat)))))] : List Int)) ++ (List.take ((96 : Nat) - (0 : Nat)) (List.drop (0 : Nat) s)))))))) * (1 : Nat)) ≤ (140737488355328 : Nat))) :
 ∃ ps, runF Tryd.prog DF gCw 100 Tryd.f35 [.agg [.int .i64 false r, .arr .u8 96 s]] [.roll] = some ((AV.v (A0.one (Part.fresh (0 : Nat) (5 : Nat) Go.IntKind.u8 (((((((((((List.replicate (0 : Nat) (0 : Int)) ++ ([(Go.IntKind.wrap Go.IntKind.u8 (Int.fdiv r ((2 : Int) ^ (min (56 : Nat) (64 : Nat)))))] : List Int)) ++ ([(Go.IntKind.wrap Go.IntKind.u8 (Int.fdiv r ((2 : Int) ^ (min (48 : Nat) (64 : Nat)))))] : List Int)) ++ ([(Go.IntKind.wrap Go.IntKind.u8 (Int.fdiv r ((2 : Int) ^ (min (40 : Nat) (64 : Nat)))))] : List Int)) ++ ([(Go.IntKind.wrap Go.IntKind.u8 (Int.fdiv r ((2 : Int) ^ (min (32 : Nat) (64 : Nat)))))] : List Int)) ++ ([(Go.IntKind.wrap Go.IntKind.u8 (Int.fdiv r ((2 : Int) ^ (min (24 : Nat) (64 : Nat)))))] : List Int)) ++ ([(Go.IntKind.wrap Go.IntKind.u8 (Int.fdiv r ((2 : Int) ^ (min (16 : Nat) (64 : Nat)))))] : List Int)) ++ ([(Go.IntKind.wrap Go.IntKind.u8 (Int.fdiv r ((2 : Int) ^ (min (8 : Nat) (64 : Nat)))))] : List Int)) ++ ([(Go.IntKind.wrap Go.IntKind.u8 (Int.fdiv r ((2 : Int) ^ (min (0 : Nat) (64 : Nat)))))] : List Int)) ++ (List.take ((96 : Nat) - (0 : Nat)) (List.drop (0 : Nat) s))) ++ (List.take ((8 : Nat) - (0 : Nat)) (List.drop (0 : Nat) (sumL ((((((((((List.replicate (0 : Nat) (0 : Int)) ++ ([(Go.IntKind.wrap Go.IntKind.u8 (Int.fdiv r ((2 : Int) ^ (min (56 : Nat) (64 : Nat)))))] : List Int)) ++ ([(Go.IntKind.wrap Go.IntKind.u8 (Int.fdiv r ((2 : Int) ^ (min (48 : Nat) (64 : Nat)))))] : List Int)) ++ ([(Go.IntKind.wrap Go.IntKind.u8 (Int.fdiv r ((2 : Int) ^ (min (40 : Nat) (64 : Nat)))))] : List Int)) ++ ([(Go.IntKind.wrap Go.IntKind.u8 (Int.fdiv r ((2 : Int) ^ (min (32 : Nat) (64 : Nat)))))] : List Int)) ++ ([(Go.IntKind.wrap Go.IntKind.u8 (Int.fdiv r ((2 : Int) ^ (min (24 : Nat) (64 : Nat)))))] : List Int)) ++ ([(Go.IntKind.wrap Go.IntKind.u8 (Int.fdiv r ((2 : Int) ^ (min (16 : Nat) (64 : Nat)))))] : List Int)) ++ ([(Go.IntKind.wrap Go.IntKind.u8 (Int.fdiv r ((2 : Int) ^ (min (8 : Nat) (64 : Nat)))))] : List Int)) ++ ([(Go.IntKind.wrap Go.IntKind.u8 (Int.fdiv r ((2 : Int) ^ (min (0 : Nat) (64 : Nat)))))] : List Int)) ++ (List.take ((96 : Nat) - (0 : Nat)) (List.drop (0 : Nat) s)))))))))), ps) ∧ AllQ ps := ⟨_, by kernel_rfl, qc (show ((0 : Int) ≤ (0 : Int)) from by decide) (qc (show ((0 : Int) ≤ (112 : Int)) from by decide) (qc (show ((112 : Int) ≤ (9223372036854775807 : Int)) from by decide) (qc (show (((((1 : Nat) : Nat) : Int) * (112 : Int)) ≤ (281474976710656 : Int)) from by decide) (qc h1 (qc h2 (qc h3 (qc h4 (qc h5 (qc h6 (qc h7 (qc h8 (qc h9 (qc h10 (qc h11 (qc h12 (qc h13 (qc h14 (qc h15 (qc h16 (qc (show ((0 : Int) ≤ (0 : Int)) from by decide) (qc (show ((0 : Int) ≤ (((96 : Nat) : Nat) : Int)) from by decide) (qc (show ((((96 : Nat) : Nat) : Int) ≤ (((96 : Nat) : Nat) : Int)) from by decide) (qc (show ((0 : Int) < (((96 : Nat) : Nat) : Int)) from by decide) (qc h17 (qc h18 (qc h19 (qc (show ((0 : Int) ≤ (0 : Int)) from by decide) (qc (show ((0 : Int) ≤ (((8 : Nat) : Nat) : Int)) from by decide) (qc (show ((((8 : Nat) : Nat) : Int) ≤ (((8 : Nat) : Nat) : Int)) from by decide) (qc (show ((0 : Int) < (((8 : Nat) : Nat) : Int)) from by decide) (qc h20 (qc h21 (qn)))))))))))))))))))))))))))))))))⟩
def nIt (l : List Int) : Nat → Int
  | 0 => 0
  | i + 1 => bitsOf .or .u64 (IntKind.u64.wrap (nIt l i * 2 ^ min 8 64)) (IntKind.u64.wrap (l.getD i 0))
def rdSn (l : List Int) (r n i : Int) : Sn DF.τ where
  slots := [(0, .v (.one (.words .u8 l))), (1, .v (.one (.int .i64 false r))), (4, .v (.one (.ref 0 0))), (6, .v (.one (.int .u64 false n))), (10, .v (.one (.words .u8 (l.take 8)))), (11, .v (.one (.int .i64 false 8))), (12, .v (.one (.int .i64 false i)))]
  boxes := [(0, .fixed 37 [.int .i64 false 0, .arr .u8 96 (List.replicate 96 0)])]
  nt := 43
def rdEd (l : List Int) (r n : Int) : Sn DF.τ where
  slots := [(0, .v (.one (.words .u8 l))), (1, .v (.one (.int .i64 false r))), (4, .v (.one (.ref 0 0))), (6, .v (.one (.int .u64 false n)))]
  boxes := [(0, .fixed 37 [.int .i64 false 0, .arr .u8 96 (List.replicate 96 0)])]
  nt := 43
theorem rd_step (l : List Int) (r n n' : Int) (i : Nat)
 (h1 : ((decide (((i : Nat) : Int) < (8 : Int))) = true))
 (h2 : ((0 : Int) ≤ ((i : Nat) : Int)))
 (h3 : (((i : Nat) : Int) < (((List.length (List.take (8 : Nat) l)) : Nat) : Int)))
 (h4 : (InI64 (((i : Nat) : Int) + (1 : Int))))
 (h5 : ((bitsOf Go.BinOp.or Go.IntKind.u64 (Go.IntKind.wrap Go.IntKind.u64 (n * ((2 : Int) ^ (min (8 : Nat) (64 : Nat))))) (Go.IntKind.wrap Go.IntKind.u64 (List.getD (List.take (8 : Nat) l) (Int.toNat ((i : Nat) : Int)) (0 : Int)))) = n')) :
 ∃ ps, stepPs Tryd.prog DF gCw 100 (bodyN Tryd.f30 0) 100 (rdSn l r n i).st [.is true] .normal (rdSn l r n' ((i : Int) + 1)) = some ps ∧ AllQ ps := ⟨_, by kernel_rfl, qc h1 (qc h2 (qc h3 (qc h4 (qc (Eq.refl l) (qc (Eq.refl r) (qc h5 (qc (Eq.refl ((List.take (8 : Nat) l))) (qc (Eq.refl ((8 : Int))) (qc (Eq.refl ((((i : Nat) : Int) + (1 : Int)))) (qc (Eq.refl ((0 : Int))) (qc (Eq.refl ((List.replicate (96 : Nat) (0 : Int)))) (qn))))))))))))⟩
theorem rd_exit (l : List Int) (r n : Int) (i : Nat)
 (h1 : ((decide (((i : Nat) : Int) < (8 : Int))) = false)) :
 ∃ ps, stepPs Tryd.prog DF gCw 100 (bodyN Tryd.f30 0) 100 (rdSn l r n i).st [.is false] (.exit 0) (rdEd l r n) = some ps ∧ AllQ ps := ⟨_, by kernel_rfl, qc h1 (qc (Eq.refl l) (qc (Eq.refl r) (qc (Eq.refl n) (qc (Eq.refl ((0 : Int))) (qc (Eq.refl ((List.replicate (96 : Nat) (0 : Int)))) (qn))))))⟩
theorem rd_num (l : List Int) (r n : Int)
 (h1 : ((8 : Int) ≤ (((List.length l) : Nat) : Int)))
 (h2 : SumOK Tryd.prog DF (bodyN Tryd.f30 0) (loopL DF (rdSn l r 0 (0 : Nat)) (.exit 0) (rdEd l r n)))
 (h3 : ((List.drop (0 : Nat) (List.take (8 : Nat) l)) = (List.take (8 : Nat) l)))
 (h4 : ((((List.length (List.drop (0 : Nat) (List.take (8 : Nat) l))) : Nat) : Int) = (8 : Int)))
 (h5 : ((n != (Go.IntKind.wrap Go.IntKind.u64 r)) = true)) :
 ∃ ps, runF Tryd.prog DF gCw 100 Tryd.f30 [.one (.words .u8 l), .one (.int .i64 false r)] [.loop (loopL DF (rdSn l r 0 (0 : Nat)) (.exit 0) (rdEd l r n)), .is true, .is true] = some ((AV.tup [(A0.agg [(Part.int Go.IntKind.i64 true (0 : Int)), (Part.int Go.IntKind.u8 true (0 : Int)), (Part.int Go.IntKind.u8 true (0 : Int)), (Part.int Go.IntKind.u8 true (0 : Int)), (Part.int Go.IntKind.u8 true (0 : Int)), (Part.int Go.IntKind.u8 true (0 : Int)), (Part.int Go.IntKind.u8 true (0 : Int)), (Part.int Go.IntKind.u8 true (0 : Int)), (Part.int Go.IntKind.u8 true (0 : Int)), (Part.int Go.IntKind.u8 true (0 : Int)), (Part.int Go.IntKind.u8 true (0 : Int)), (Part.int Go.IntKind.u8 true (0 : Int)), (Part.int Go.IntKind.u8 true (0 : Int)), (Part.int Go.IntKind.u8 true (0 : Int)), (Part.int Go.IntKind.u8 true (0 : Int)), (Part.int Go.IntKind.u8 true (0 : Int)), (Part.int Go.IntKind.u8 true (0 : Int)), (Part.int Go.IntKind.u8 true (0 : Int)), (Part.int Go.IntKind.u8 true (0 : Int)), (Part.int Go.IntKind.u8 true (0 : Int)), (Part.int Go.IntKind.u8 true (0 : Int)), (Part.int Go.IntKind.u8 true (0 : Int)), (Part.int Go.IntKind.u8 true (0 : Int)), (Part.int Go.IntKind.u8 true (0 : Int)), (Part.int Go.IntKind.u8 true (0 : Int)), (Part.int Go.IntKind.u8 true (0 : Int)), (Part.int Go.IntKind.u8 true (0 : Int)), (Part.int Go.IntKind.u8 true (0 : Int)), (Part.int Go.IntKind.u8 true (0 : Int)), (Part.int Go.IntKind.u8 true (0 : Int)), (Part.int Go.IntKind.u8 true (0 : Int)), (Part.int Go.IntKind.u8 true (0 : Int)), (Part.int Go.IntKind.u8 true (0 : Int)), (Part.int Go.IntKind.u8 true (0 : Int)), (Part.int Go.IntKind.u8 true (0 : Int)), (Part.int Go.IntKind.u8 true (0 : Int)), (Part.int Go.IntKind.u8 true (0 : Int)), (Part.int Go.IntKind.u8 true (0 : Int)), (Part.int Go.IntKind.u8 true (0 : Int)), (Part.int Go.IntKind.u8 true (0 : Int)), (Part.int Go.IntKind.u8 true (0 : Int)), (Part.int Go.IntKind.u8 true (0 : Int)), (Part.int Go.IntKind.u8 true (0 : Int)), (Part.int Go.IntKind.u8 true (0 : Int)), (Part.int Go.IntKind.u8 true (0 : Int)), (Part.int Go.IntKind.u8 true (0 : Int)), (Part.int Go.IntKind.u8 true (0 : Int)), (Part.int Go.IntKind.u8 true (0 : Int)), (Part.int Go.IntKind.u8 true (0 : Int)), (Part.int Go.IntKind.u8 true (0 : Int)), (Part.int Go.IntKind.u8 true (0 : Int)), (Part.int Go.IntKind.u8 true (0 : Int)), (Part.int Go.IntKind.u8 true (0 : Int)), (Part.int Go.IntKind.u8 true (0 : Int)), (Part.int Go.IntKind.u8 true (0 : Int)), (Part.int Go.IntKind.u8 true (0 : Int)), (Part.int Go.IntKind.u8 true (0 : Int)), (Part.int Go.IntKind.u8 true (0 : Int)), (Part.int Go.IntKind.u8 true (0 : Int)), (Part.int Go.IntKind.u8 true (0 : Int)), (Part.int Go.IntKind.u8 true (0 : Int)), (Part.int Go.IntKind.u8 true (0 : Int)), (Part.int Go.IntKind.u8 true (0 : Int)), (Part.int Go.IntKind.u8 true (0 : Int)), (Part.int Go.IntKind.u8 true (0 : Int)), (Part.int Go.IntKind.u8 true (0 : Int)), (Part.int Go.IntKind.u8 true (0 : Int)), (Part.int Go.IntKind.u8 true (0 : Int)), (Part.int Go.IntKind.u8 true (0 : Int)), (Part.int Go.IntKind.u8 true (0 : Int)), (Part.int Go.IntKind.u8 true (0 : Int)), (Part.int Go.IntKind.u8 true (0 : Int)), (Part.int Go.IntKind.u8 true (0 : Int)), (Part.int Go.IntKind.u8 true (0 : Int)), (Part.int Go.IntKind.u8 true (0 : Int)), (Part.int Go.IntKind.u8 true (0 : Int)), (Part.int Go.IntKind.u8 true (0 : Int)), (Part.int Go.IntKind.u8 true (0 : Int)), (Part.int Go.IntKind.u8 true (0 : Int)), (Part.int Go.IntKind.u8 true (0 : Int)), (Part.int Go.IntKind.u8 true (0 : Int)), (Part.int Go.IntKind.u8 true (0 : Int)), (Part.int Go.IntKind.u8 true (0 : Int)), (Part.int Go.IntKind.u8 true (0 : Int)), (Part.int Go.IntKind.u8 true (0 : Int)), (Part.int Go.IntKind.u8 true (0 : Int)), (Part.int Go.IntKind.u8 true (0 : Int)), (Part.int Go.IntKind.u8 true (0 : Int)), (Part.int Go.IntKind.u8 true (0 : Int)), (Part.int Go.IntKind.u8 true (0 : Int)), (Part.int Go.IntKind.u8 true (0 : Int)), (Part.int Go.IntKind.u8 true (0 : Int)), (Part.int Go.IntKind.u8 true (0 : Int)), (Part.int Go.IntKind.u8 true (0 : Int)), (Part.int Go.IntKind.u8 true (0 : Int)), (Part.int Go.IntKind.u8 true (0 : Int)), (Part.int Go.IntKind.u8 true (0 : Int))]), (A0.one (Part.bool true false))]), ps) ∧ AllQ ps := ⟨_, by kernel_rfl, qc (show ((0 : Int) ≤ (0 : Int)) from by decide) (qc (show ((0 : Int) ≤ (8 : Int)) from by decide) (qc h1 (qc h2 (qc (Eq.refl l) (qc (Eq.refl r) (qc (Eq.refl ((0 : Int))) (qc h3 (qc h4 (qc (show ((0 : Int) = (((0 : Nat) : Nat) : Int)) from by decide) (qc (Eq.refl ((0 : Int))) (qc (show (([(0 : Int), (0 : Int), (0 : Int), (0 : Int), (0 : Int), (0 : Int), (0 : Int), (0 : Int), (0 : Int), (0 : Int), (0 : Int), (0 : Int), (0 : Int), (0 : Int), (0 : Int), (0 : Int), (0 : Int), (0 : Int), (0 : Int), (0 : Int), (0 : Int), (0 : Int), (0 : Int), (0 : Int), (0 : Int), (0 : Int), (0 : Int), (0 : Int), (0 : Int), (0 : Int), (0 : Int), (0 : Int), (0 : Int), (0 : Int), (0 : Int), (0 : Int), (0 : Int), (0 : Int), (0 : Int), (0 : Int), (0 : Int), (0 : Int), (0 : Int), (0 : Int), (0 : Int), (0 : Int), (0 : Int), (0 : Int), (0 : Int), (0 : Int), (0 : Int), (0 : Int), (0 : Int), (0 : Int), (0 : Int), (0 : Int), (0 : Int), (0 : Int), (0 : Int), (0 : Int), (0 : Int), (0 : Int), (0 : Int), (0 : Int), (0 : Int), (0 : Int), (0 : Int), (0 : Int), (0 : Int), (0 : Int), (0 : Int), (0 : Int), (0 : Int), (0 : Int), (0 : Int), (0 : Int), (0 : Int), (0 : Int), (0 : Int), (0 : Int), (0 : Int), (0 : Int), (0 : Int), (0 : Int), (0 : Int), (0 : Int), (0 : Int), (0 : Int), (0 : Int), (0 : Int), (0 : Int), (0 : Int), (0 : Int), (0 : Int), (0 : Int), (0 : Int)] : List Int) = (List.replicate (96 : Nat) (0 : Int))) from by decide) (qc h5 (qn)))))))))))))⟩
theorem rd_sum (l : List Int) (r n : Int)
 (h1 : ((8 : Int) ≤ (((List.length l) : Nat) : Int)))
 (h2 : SumOK Tryd.prog DF (bodyN Tryd.f30 0) (loopL DF (rdSn l r 0 (0 : Nat)) (.exit 0) (rdEd l r n)))
 (h3 : ((List.drop (0 : Nat) (List.take (8 : Nat) l)) = (List.take (8 : Nat) l)))
 (h4 : ((((List.length (List.drop (0 : Nat) (List.take (8 : Nat) l))) : Nat) : Int) = (8 : Int)))
 (h5 : ((n != (Go.IntKind.wrap Go.IntKind.u64 r)) = false))
 (h6 : ((104 : Int) ≤ (((List.length l) : Nat) : Int)))
 (h7 : ((List.length (List.drop (0 : Nat) (List.take (104 : Nat) l))) ≤ (4611686018427387904 : Nat)))
 (h8 : ((112 : Int) ≤ (((List.length l) : Nat) : Int)))
 (h9 : ((8 : Nat) ≤ (List.length (List.drop (104 : Nat) (List.take (112 : Nat) l)))))
 (h10 : ((!((decide ((sumL (List.drop (0 : Nat) (List.take (104 : Nat) l))) = (List.take (8 : Nat) (List.drop (104 : Nat) (List.take (112 : Nat) l))))) && true)) = true))
 (h11 : (EqT Tryd.prog (84 : Nat))) :
 ∃ ps, runF Tryd.prog DF gCw 100 Tryd.f30 [.one (.words .u8 l), .one (.int .i64 false r)] [.loop (loopL DF (rdSn l r 0 (0 : Nat)) (.exit 0) (rdEd l r n)), .is false, .is true] = some ((AV.tup [(A0.agg [(Part.int Go.IntKind.i64 true (0 : Int)), (Part.int Go.IntKind.u8 true (0 : Int)), (Part.int Go.IntKind.u8 true (0 : Int)), (Part.int Go.IntKind.u8 true (0 : Int)), (Part.int Go.IntKind.u8 true (0 : Int)), (Part.int Go.IntKind.u8 true (0 : Int)), (Part.int Go.IntKind.u8 true (0 : Int)), (Part.int Go.IntKind.u8 true (0 : Int)), (Part.int Go.IntKind.u8 true (0 : Int)), (Part.int Go.IntKind.u8 true (0 : Int)), (Part.int Go.IntKind.u8 true (0 : Int)), (Part.int Go.IntKind.u8 true (0 : Int)), (Part.int Go.IntKind.u8 true (0 : Int)), (Part.int Go.IntKind.u8 true (0 : Int)), (Part.int Go.IntKind.u8 true (0 : Int)), (Part.int Go.IntKind.u8 true (0 : Int)), (Part.int Go.IntKind.u8 true (0 : Int)), (Part.int Go.IntKind.u8 true (0 : Int)), (Part.int Go.IntKind.u8 true (0 : Int)), (Part.int Go.IntKind.u8 true (0 : Int)), (Part.int Go.IntKind.u8 true (0 : Int)), (Part.int Go.IntKind.u8 true (0 : Int)), (Part.int Go.IntKind.u8 true (0 : Int)), (Part.int Go.IntKind.u8 true (0 : Int)), (Part.int Go.IntKind.u8 true (0 : Int)), (Part.int Go.IntKind.u8 true (0 : Int)), (Part.int Go.IntKind.u8 true (0 : Int)), (Part.int Go.IntKind.u8 true (0 : Int)), (Part.int Go.IntKind.u8 true (0 : Int)), (Part.int Go.IntKind.u8 true (0 : Int)), (Part.int Go.IntKind.u8 true (0 : Int)), (Part.int Go.IntKind.u8 true (0 : Int)), (Part.int Go.IntKind.u8 true (0 : Int)), (Part.int Go.IntKind.u8 true (0 : Int)), (Part.int Go.IntKind.u8 true (0 : Int)), (Part.int Go.IntKind.u8 true (0 : Int)), (Part.int Go.IntKind.u8 true (0 : Int)), (Part.int Go.IntKind.u8 true (0 : Int)), (Part.int Go.IntKind.u8 true (0 : Int)), (Part.int Go.IntKind.u8 true (0 : Int)), (Part.int Go.IntKind.u8 true (0 : Int)), (Part.int Go.IntKind.u8 true (0 : Int)), (Part.int Go.IntKind.u8 true (0 : Int)), (Part.int Go.IntKind.u8 true (0 : Int)), (Part.int Go.IntKind.u8 true (0 : Int)), (Part.int Go.IntKind.u8 true (0 : Int)), (Part.int Go.IntKind.u8 true (0 : Int)), (Part.int Go.IntKind.u8 true (0 : Int)), (Part.int Go.IntKind.u8 true (0 : Int)), (Part.int Go.IntKind.u8 true (0 : Int)), (Part.int Go.IntKind.u8 true (0 : Int)), (Part.int Go.IntKind.u8 true (0 : Int)), (Part.int Go.IntKind.u8 true (0 : Int)), (Part.int Go.IntKind.u8 true (0 : Int)), (Part.int Go.IntKind.u8 true (0 : Int)), (Part.int Go.IntKind.u8 true (0 : Int)), (Part.int Go.IntKind.u8 true (0 : Int)), (Part.int Go.IntKind.u8 true (0 : Int)), (Part.int Go.IntKind.u8 true (0 : Int)), (Part.int Go.IntKind.u8 true (0 : Int)), (Part.int Go.IntKind.u8 true (0 : Int)), (Part.int Go.IntKind.u8 true (0 : Int)), (Part.int Go.IntKind.u8 true (0 : Int)), (Part.int Go.IntKind.u8 true (0 : Int)), (Part.int Go.IntKind.u8 true (0 : Int)), (Part.int Go.IntKind.u8 true (0 : Int)), (Part.int Go.IntKind.u8 true (0 : Int)), (Part.int Go.IntKind.u8 true (0 : Int)), (Part.int Go.IntKind.u8 true (0 : Int)), (Part.int Go.IntKind.u8 true (0 : Int)), (Part.int Go.IntKind.u8 true (0 : Int)), (Part.int Go.IntKind.u8 true (0 : Int)), (Part.int Go.IntKind.u8 true (0 : Int)), (Part.int Go.IntKind.u8 true (0 : Int)), (Part.int Go.IntKind.u8 true (0 : Int)), (Part.int Go.IntKind.u8 true (0 : Int)), (Part.int Go.IntKind.u8 true (0 : Int)), (Part.int Go.IntKind.u8 true (0 : Int)), (Part.int Go.IntKind.u8 true (0 : Int)), (Part.int Go.IntKind.u8 true (0 : Int)), (Part.int Go.IntKind.u8 true (0 : Int)), (Part.int Go.IntKind.u8 true (0 : Int)), (Part.int Go.IntKind.u8 true (0 : Int)), (Part.int Go.IntKind.u8 true (0 : Int)), (Part.int Go.IntKind.u8 true (0 : Int)), (Part.int Go.IntKind.u8 true (0 : Int)), (Part.int Go.IntKind.u8 true (0 : Int)), (Part.int Go.IntKind.u8 true (0 : Int)), (Part.int Go.IntKind.u8 true (0 : Int)), (Part.int Go.IntKind.u8 true (0 : Int)), (Part.int Go.IntKind.u8 true (0 : Int)), (Part.int Go.IntKind.u8 true (0 : Int)), (Part.int Go.IntKind.u8 true (0 : Int)), (Part.int Go.IntKind.u8 true (0 : Int)), (Part.int Go.IntKind.u8 true (0 : Int)), (Part.int Go.IntKind.u8 true (0 : Int)), (Part.int Go.IntKind.u8 true (0 : Int))]), (A0.one (Part.bool true false))]), ps) ∧ AllQ ps := ⟨_, by kernel_rfl, qc (show ((0 : Int) ≤ (0 : Int)) from by decide) (qc (show ((0 : Int) ≤ (8 : Int)) from by decide) (qc h1 (qc h2 (qc (Eq.refl l) (qc (Eq.refl r) (qc (Eq.refl ((0 : Int))) (qc h3 (qc h4 (qc (show ((0 : Int) = (((0 : Nat) : Nat) : Int)) from by decide) (qc (Eq.refl ((0 : Int))) (qc (show (([(0 : Int), (0 : Int), (0 : Int), (0 : Int), (0 : Int), (0 : Int), (0 : Int), (0 : Int), (0 : Int), (0 : Int), (0 : Int), (0 : Int), (0 : Int), (0 : Int), (0 : Int), (0 : Int), (0 : Int), (0 : Int), (0 : Int), (0 : Int), (0 : Int), (0 : Int), (0 : Int), (0 : Int), (0 : Int), (0 : Int), (0 : Int), (0 : Int), (0 : Int), (0 : Int), (0 : Int), (0 : Int), (0 : Int), (0 : Int), (0 : Int), (0 : Int), (0 : Int), (0 : Int), (0 : Int), (0 : Int), (0 : Int), (0 : Int), (0 : Int), (0 : Int), (0 : Int), (0 : Int), (0 : Int), (0 : Int), (0 : Int), (0 : Int), (0 : Int), (0 : Int), (0 : Int), (0 : Int), (0 : Int), (0 : Int), (0 : Int), (0 : Int), (0 : Int), (0 : Int), (0 : Int), (0 : Int), (0 : Int), (0 : Int), (0 : Int), (0 : Int), (0 : Int), (0 : Int), (0 : Int), (0 : Int), (0 : Int), (0 : Int), (0 : Int), (0 : Int), (0 : Int), (0 : Int), (0 : Int), (0 : Int), (0 : Int), (0 : Int), (0 : Int), (0 : Int), (0 : Int), (0 : Int), (0 : Int), (0 : Int), (0 : Int), (0 : Int), (0 : Int), (0 : Int), (0 : Int), (0 : Int), (0 : Int), (0 : Int), (0 : Int), (0 : Int)] : List Int) = (List.replicate (96 : Nat) (0 : Int))) from by decide) (qc h5 (qc (show ((0 : Int) ≤ (0 : Int)) from by decide) (qc (show ((0 : Int) ≤ (104 : Int)) from by decide) (qc h6 (qc h7 (qc (show ((0 : Int) ≤ (104 : Int)) from by decide) (qc (show ((104 : Int) ≤ (112 : Int)) from by decide) (qc h8 (qc h9 (qc h10 (qc h11 (qn)))))))))))))))))))))))⟩
theorem rd_ok (l : List Int) (r n : Int)
 (h1 : ((8 : Int) ≤ (((List.length l) : Nat) : Int)))
 (h2 : SumOK Tryd.prog DF (bodyN Tryd.f30 0) (loopL DF (rdSn l r 0 (0 : Nat)) (.exit 0) (rdEd l r n)))
 (h3 : ((List.drop (0 : Nat) (List.take (8 : Nat) l)) = (List.take (8 : Nat) l)))
 (h4 : ((((List.length (List.drop (0 : Nat) (List.take (8 : Nat) l))) : Nat) : Int) = (8 : Int)))
 (h5 : ((n != (Go.IntKind.wrap Go.IntKind.u64 r)) = false))
 (h6 : ((104 : Int) ≤ (((List.length l) : Nat) : Int)))
 (h7 : ((List.length (List.drop (0 : Nat) (List.take (104 : Nat) l))) ≤ (4611686018427387904 : Nat)))
 (h8 : ((112 : Int) ≤ (((List.length l) : Nat) : Int)))
 (h9 : ((8 : Nat) ≤ (List.length (List.drop (104 : Nat) (List.take (112 : Nat) l)))))
 (h10 : ((!((decide ((sumL (List.drop (0 : Nat) (List.take (104 : Nat) l))) = (List.take (8 : Nat) (List.drop (104 : Nat) (List.take (112 : Nat) l))))) && true)) = false))
 (h11 : (EqT Tryd.prog (84 : Nat)))
 (h12 : ((96 : Nat) ≤ (List.length (List.drop (8 : Nat) (List.take (104 : Nat) l))))) :
 ∃ ps, runF Tryd.prog DF gCw 100 Tryd.f30 [.one (.words .u8 l), .one (.int .i64 false r)] [.loop (loopL DF (rdSn l r 0 (0 : Nat)) (.exit 0) (rdEd l r n)), .is false, .is false, .is false] = some ((AV.tup [(A0.agg [(Part.int Go.IntKind.i64 false r), (Part.arr Go.IntKind.u8 (96 : Nat) (List.take (96 : Nat) (List.drop (8 : Nat) (List.take (104 : Nat) l))))]), (A0.one (Part.bool true true))]), ps) ∧ AllQ ps := ⟨_, by kernel_rfl, qc (show ((0 : Int) ≤ (0 : Int)) from by decide) (qc (show ((0 : Int) ≤ (8 : Int)) from by decide) (qc h1 (qc h2 (qc (Eq.refl l) (qc (Eq.refl r) (qc (Eq.refl ((0 : Int))) (qc h3 (qc h4 (qc (show ((0 : Int) = (((0 : Nat) : Nat) : Int)) from by decide) (qc (Eq.refl ((0 : Int))) (qc (show (([(0 : Int), (0 : Int), (0 : Int), (0 : Int), (0 : Int), (0 : Int), (0 : Int), (0 : Int), (0 : Int), (0 : Int), (0 : Int), (0 : Int), (0 : Int), (0 : Int), (0 : Int), (0 : Int), (0 : Int), (0 : Int), (0 : Int), (0 : Int), (0 : Int), (0 : Int), (0 : Int), (0 : Int), (0 : Int), (0 : Int), (0 : Int), (0 : Int), (0 : Int), (0 : Int), (0 : Int), (0 : Int), (0 : Int), (0 : Int), (0 : Int), (0 : Int), (0 : Int), (0 : Int), (0 : Int), (0 : Int), (0 : Int), (0 : Int), (0 : Int), (0 : Int), (0 : Int), (0 : Int), (0 : Int), (0 : Int), (0 : Int), (0 : Int), (0 : Int), (0 : Int), (0 : Int), (0 : Int), (0 : Int), (0 : Int), (0 : Int), (0 : Int), (0 : Int), (0 : Int), (0 : Int), (0 : Int), (0 : Int), (0 : Int), (0 : Int), (0 : Int), (0 : Int), (0 : Int), (0 : Int), (0 : Int), (0 : Int), (0 : Int), (0 : Int), (0 : Int), (0 : Int), (0 : Int), (0 : Int), (0 : Int), (0 : Int), (0 : Int), (0 : Int), (0 : Int), (0 : Int), (0 : Int), (0 : Int), (0 : Int), (0 : Int), (0 : Int), (0 : Int), (0 : Int), (0 : Int), (0 : Int), (0 : Int), (0 : Int), (0 : Int), (0 : Int)] : List Int) = (List.replicate (96 : Nat) (0 : Int))) from by decide) (qc h5 (qc (show ((0 : Int) ≤ (0 : Int)) from by decide) (qc (show ((0 : Int) ≤ (104 : Int)) from by decide) (qc h6 (qc h7 (qc (show ((0 : Int) ≤ (104 : Int)) from by decide) (qc (show ((104 : Int) ≤ (112 : Int)) from by decide) (qc h8 (qc h9 (qc h10 (qc h11 (qc (show ((0 : Int) ≤ (8 : Int)) from by decide) (qc (show ((8 : Int) ≤ (104 : Int)) from by decide) (qc h6 (qc h12 (qn)))))))))))))))))))))))))))⟩
set_option maxRecDepth 100000 in
theorem cs_ok : FnOK Tryd.prog DF 40 csD := by
  refine fnOK_of gCs_ok mixed Tryd.func40 (enters_of Tryd.func40 (by kernel_rfl) rfl) ?_
  intro xs r ps h hps
  unfold csD at h
  split at h
  · rename_i l
    simp only [Option.some.injEq, Prod.mk.injEq] at h
    obtain ⟨rfl, rfl⟩ := h
    have hl : l.length ≤ 4611686018427387904 := hps _ (by simp)
    obtain ⟨qs, q1, q2⟩ := cs_run l [] (by simp; omega) (by decide)
    refine ⟨_, _, _, _, _, ?_, q1, q2, ?_⟩
    · exact fun w vs hx => hx
    · exact fun E v hv => hv
  · cases h
theorem gCw_ok : GamOK Tryd.prog DF gCw := gam_cons cs_ok gam_nil
def cwD : FnD DF
  | [.agg [.int .i64 _ r, .arr .u8 96 s]] => some (.v (.one (.fresh 0 5 .u8 (frameL r s))), [s.length = 96])
  | _ => none
theorem cw_ok : FnOK Tryd.prog DF 35 cwD := by
  refine fnOK_of gCw_ok mixed Tryd.func35 (enters_of Tryd.func35 (by kernel_rfl) rfl) ?_
  intro xs r ps h hps
  unfold cwD at h
  split at h
  · rename_i r0 s
    simp only [Option.some.injEq, Prod.mk.injEq] at h
    obtain ⟨rfl, rfl⟩ := h
    have hl : s.length = 96 := hps _ (by simp)
    have h8 : ∀ l, (sumL l).length = 8 := sumL_len
    obtain ⟨qs, q1, q2⟩ := cw_run r0 s (by decide) (by decide) (by simp) (by simp) (by simp) (by simp) (by simp) (by simp) (by simp) (by simp) (by simp) (by simp) (by simp) (by simp) (by simp) (by simp) (by simp; omega) (by simp; omega) (by simp; omega) (by simp; omega) (by simp; omega)
    refine ⟨_, _, _, _, _, ?_, q1, q2, ?_⟩
    · exact fun w vs hx => hx
    · intro E v hv
      have e : ∀ x : List Int, x = frameL r0 s → AVRel DF E (.v (.one (.fresh 0 5 .u8 x))) v → AVRel DF E (.v (.one (.fresh 0 5 .u8 (frameL r0 s)))) v := by
        rintro _ rfl h
        exact h
      refine e _ ?_ hv
      have t1 : List.take (96 - 0) (List.drop 0 s) = s := by rw [List.drop_zero]; exact List.take_of_length_le (by omega)
      have t2 : ∀ l, List.take (8 - 0) (List.drop 0 (sumL l)) = sumL l := fun l => by rw [List.drop_zero]; exact List.take_of_length_le (by rw [h8]; decide)
      rw [t1, t2]
      rfl
  · cases h
def fitsB (l : List Int) (r : Int) : Prop := nIt (l.take 8) 8 = IntKind.u64.wrap r ∧ sumL (l.take 104) = (l.drop 104).take 8
def sigB (l : List Int) : List Int := ((l.take 104).drop 8).take 96
def readOkD : FnD DF
  | [.one (.words .u8 l), .one (.int .i64 _ r)] => some (.tup [.agg [.int .i64 false r, .arr .u8 96 (sigB l)], .one (.bool true true)], [112 ≤ l.length, l.length ≤ 4611686018427387904, fitsB l r])
  | _ => none
def zeroL : List (Part DF.τ) := [.int .i64 true 0, .int .u8 true 0, .int .u8 true 0, .int .u8 true 0, .int .u8 true 0, .int .u8 true 0, .int .u8 true 0, .int .u8 true 0, .int .u8 true 0, .int .u8 true 0, .int .u8 true 0, .int .u8 true 0, .int .u8 true 0, .int .u8 true 0, .int .u8 true 0, .int .u8 true 0, .int .u8 true 0, .int .u8 true 0, .int .u8 true 0, .int .u8 true 0, .int .u8 true 0, .int .u8 true 0, .int .u8 true 0, .int .u8 true 0, .int .u8 true 0, .int .u8 true 0, .int .u8 true 0, .int .u8 true 0, .int .u8 true 0, .int .u8 true 0, .int .u8 true 0, .int .u8 true 0, .int .u8 true 0, .int .u8 true 0, .int .u8 true 0, .int .u8 true 0, .int .u8 true 0, .int .u8 true 0, .int .u8 true 0, .int .u8 true 0, .int .u8 true 0, .int .u8 true 0, .int .u8 true 0, .int .u8 true 0, .int .u8 true 0, .int .u8 true 0, .int .u8 true 0, .int .u8 true 0, .int .u8 true 0, .int .u8 true 0, .int .u8 true 0, .int .u8 true 0, .int .u8 true 0, .int .u8 true 0, .int .u8 true 0, .int .u8 true 0, .int .u8 true 0, .int .u8 true 0, .int .u8 true 0, .int .u8 true 0, .int .u8 true 0, .int .u8 true 0, .int .u8 true 0, .int .u8 true 0, .int .u8 true 0, .int .u8 true 0, .int .u8 true 0, .int .u8 true 0, .int .u8 true 0, .int .u8 true 0, .int .u8 true 0, .int .u8 true 0, .int .u8 true 0, .int .u8 true 0, .int .u8 true 0, .int .u8 true 0, .int .u8 true 0, .int .u8 true 0, .int .u8 true 0, .int .u8 true 0, .int .u8 true 0, .int .u8 true 0, .int .u8 true 0, .int .u8 true 0, .int .u8 true 0, .int .u8 true 0, .int .u8 true 0, .int .u8 true 0, .int .u8 true 0, .int .u8 true 0, .int .u8 true 0, .int .u8 true 0, .int .u8 true 0, .int .u8 true 0, .int .u8 true 0, .int .u8 true 0, .int .u8 true 0]
def readNoD : FnD DF
  | [.one (.words .u8 l), .one (.int .i64 _ r)] => some (.tup [.agg zeroL, .one (.bool true false)], [112 ≤ l.length, l.length ≤ 4611686018427387904, ¬ fitsB l r])
  | _ => none
theorem rd_loop (l : List Int) (r : Int) (h : 8 ≤ l.length) : SumOK Tryd.prog DF (bodyN Tryd.f30 0) (loopL DF (rdSn l r 0 (0 : Nat)) (.exit 0) (rdEd l r (nIt (l.take 8) 8))) := by
  have hs := sum_loop gCw_ok mixed (c := bodyN Tryd.f30 0) (fun i => rdSn l r (nIt (l.take 8) i) i) 8 (e := .exit 0) (s := rdEd l r (nIt (l.take 8) 8)) rfl (fun i hi => ?_) ?_
  · exact hs
  · exact ⟨_, _, _, rd_step l r (nIt (l.take 8) i) (nIt (l.take 8) (i + 1)) i (decide_eq_true (by omega)) (by omega) (by rw [List.length_take]; omega) ⟨by omega, by omega⟩ rfl⟩
  · exact ⟨_, _, _, rd_exit l r _ 8 (decide_eq_false (by omega))⟩
theorem eqSum8 : EqT Tryd.prog 84 := eqT_of (n := 8) (by kernel_rfl) (by kernel_rfl) (by kernel_rfl) (by kernel_rfl)
theorem take_drop_8 {l : List Int} (h : 112 ≤ l.length) : ((l.take 112).drop 104).take 8 = (l.drop 104).take 8 := by
  rw [List.drop_take, List.take_take]
  rfl
set_option maxRecDepth 100000 in
theorem readOk_ok : FnOK Tryd.prog DF 30 readOkD := by
  refine fnOK_of gCw_ok mixed Tryd.func30 (enters_of Tryd.func30 (by kernel_rfl) rfl) ?_
  intro xs r ps h hps
  unfold readOkD at h
  split at h
  · rename_i l _ r0
    simp only [Option.some.injEq, Prod.mk.injEq] at h
    obtain ⟨rfl, rfl⟩ := h
    have h1 : 112 ≤ l.length := hps _ (by simp)
    have h2 : l.length ≤ 4611686018427387904 := hps _ (by simp)
    obtain ⟨f1, f2⟩ : fitsB l r0 := hps (fitsB l r0) (by simp)
    obtain ⟨qs, q1, q2⟩ := rd_ok l r0 (nIt (l.take 8) 8) (by omega) (rd_loop l r0 (by omega)) (List.drop_zero ..) (by rw [List.drop_zero, List.length_take]; omega) (by rw [f1]; simp) (by omega) (by rw [List.drop_zero, List.length_take]; omega) (by omega) (by rw [List.length_drop, List.length_take]; omega)
      (by rw [take_drop_8 h1, List.drop_zero, f2]; simp) eqSum8 (by rw [List.length_drop, List.length_take]; omega)
    refine ⟨_, _, _, _, _, ?_, q1, q2, ?_⟩
    · exact fun w vs hx => hx
    · exact fun E v hv => hv
  · cases h
set_option maxRecDepth 100000 in
theorem readNo_ok : FnOK Tryd.prog DF 30 readNoD := by
  refine fnOK_of gCw_ok mixed Tryd.func30 (enters_of Tryd.func30 (by kernel_rfl) rfl) ?_
  intro xs r ps h hps
  unfold readNoD at h
  split at h
  · rename_i l _ r0
    simp only [Option.some.injEq, Prod.mk.injEq] at h
    obtain ⟨rfl, rfl⟩ := h
    have h1 : 112 ≤ l.length := hps _ (by simp)
    have h2 : l.length ≤ 4611686018427387904 := hps _ (by simp)
    have hf : ¬ fitsB l r0 := hps (¬ fitsB l r0) (by simp)
    by_cases f1 : nIt (l.take 8) 8 = IntKind.u64.wrap r0
    · have f2 : sumL (l.take 104) ≠ (l.drop 104).take 8 := fun e => hf ⟨f1, e⟩
      obtain ⟨qs, q1, q2⟩ := rd_sum l r0 (nIt (l.take 8) 8) (by omega) (rd_loop l r0 (by omega)) (List.drop_zero ..) (by rw [List.drop_zero, List.length_take]; omega) (by rw [f1]; simp) (by omega) (by rw [List.drop_zero, List.length_take]; omega) (by omega) (by rw [List.length_drop, List.length_take]; omega)
        (by rw [take_drop_8 h1, List.drop_zero]; simp [f2]) eqSum8
      refine ⟨_, _, _, _, _, ?_, q1, q2, ?_⟩
      · exact fun w vs hx => hx
      · exact fun E v hv => hv
    · obtain ⟨qs, q1, q2⟩ := rd_num l r0 (nIt (l.take 8) 8) (by omega) (rd_loop l r0 (by omega)) (List.drop_zero ..) (by rw [List.drop_zero, List.length_take]; omega) (bne_iff_ne.2 f1)
      refine ⟨_, _, _, _, _, ?_, q1, q2, ?_⟩
      · exact fun w vs hx => hx
      · exact fun E v hv => hv
  · cases h
end Go.Num
namespace Go.Num
open Go.Abs Go.Proofs Go.Shelf Go.RowKit
def lkSh : List FK := [.int .i64, .arr .u8 96]
abbrev cN : ByteArray := ⟨#[99, 104, 97, 105, 110]⟩
def dkBo (o : Nat) (d : DkT) : List (BoxSt DF.τ) := [.fixed 68 [.int .i64 false d.1, .mapr o, .int .i64 false d.2.1, .int .i64 false d.2.2.1, .bool false d.2.2.2.1]]
def chB (ll : List Rec) (dn : Bool) (d : DkT) : List (BoxSt DF.τ) :=
  .fixed 71 [.ref 1 0, .own 2, .bool false dn] :: (dkBo 3 d ++ [.dyn 37 (.lrs lkSh ll), .fam 0 d.2.2.2.2 none])
def chN (ll : List Rec) (dn : Bool) (d : DkT) : List (BoxSt DF.τ) :=
  .fixed 71 [.ref 1 0, .own 4, .bool false dn] :: (dkBo 3 d ++ [.dead, .fam 0 d.2.2.2.2 none, .dyn 37 (.lrs lkSh ll)])
def chX : A0 DF.τ := .one (.ref 0 0)
def lkP (r : Int) (s : List Int) : A0 DF.τ := .agg [.int .i64 false r, .arr .u8 96 s]
noncomputable def gPu : Gam DF := [(44, .op [true, false, false] appendQ), (32, .op [true, false] syncQ), (31, .op [true, false, false] cutQ)]
theorem gPu_ok : GamOK Tryd.prog DF gPu := gam_op append_ok (gam_op sync_ok (gam_op cut_ok gam_nil))
theorem pu_app (ll : List Rec) (dn : Bool) (d : DkT) (b : List Int) (e : Int)
 (h1 : (DkOK d))
 (h2 : ((List.length b) ≤ (4611686018427387904 : Nat)))
 (h3 : ((((appendM d (⟨#[99, 104, 97, 105, 110]⟩ : ByteArray) b)).1 != (0 : Int)) = true))
 (h4 : (((appendM d (⟨#[99, 104, 97, 105, 110]⟩ : ByteArray) b)).1 = e)) :
 ∃ ps, runO Tryd.prog DF gPu 100 Tryd.f34 (chB ll dn d, [chX, .one (.words .u8 b)]) [.is true] (eV e) (chB ll dn (appendM d cN b).2) = some ps ∧ AllQ ps := ⟨_, by kernel_rfl, qc (Eq.refl ((⟨#[99, 104, 97, 105, 110]⟩ : ByteArray))) (qc (Eq.refl b) (qc (Eq.refl ((d).1)) (qc (Eq.refl (((d).2).1)) (qc (Eq.refl ((((d).2).2).1)) (qc (Eq.refl (((((d).2).2).2).1)) (qc (Eq.refl (((((d).2).2).2).2)) (qc h1 (qc (show ((5 : Nat) ≤ (9223372036854775807 : Nat)) from by decide) (qc h2 (qc h3 (qc h4 (qc (Eq.refl dn) (qc (Eq.refl ((((appendM d (⟨#[99, 104, 97, 105, 110]⟩ : ByteArray) b)).2).1)) (qc (Eq.refl (((((appendM d (⟨#[99, 104, 97, 105, 110]⟩ : ByteArray) b)).2).2).1)) (qc (Eq.refl ((((((appendM d (⟨#[99, 104, 97, 105, 110]⟩ : ByteArray) b)).2).2).2).1)) (qc (Eq.refl (((((((appendM d (⟨#[99, 104, 97, 105, 110]⟩ : ByteArray) b)).2).2).2).2).1)) (qc (Eq.refl ll) (qc (Eq.refl (((((((appendM d (⟨#[99, 104, 97, 105, 110]⟩ : ByteArray) b)).2).2).2).2).2)) (qn)))))))))))))))))))⟩
theorem pu_ok (ll : List Rec) (dn : Bool) (d : DkT) (b : List Int) (e : Int)
 (h1 : (DkOK d))
 (h2 : ((List.length b) ≤ (4611686018427387904 : Nat)))
 (h3 : ((((appendM d (⟨#[99, 104, 97, 105, 110]⟩ : ByteArray) b)).1 != (0 : Int)) = false))
 (h4 : (DkOK ((appendM d (⟨#[99, 104, 97, 105, 110]⟩ : ByteArray) b)).2))
 (h5 : ((((syncM ((appendM d (⟨#[99, 104, 97, 105, 110]⟩ : ByteArray) b)).2 (⟨#[99, 104, 97, 105, 110]⟩ : ByteArray))).1 == (42 : Int)) = false))
 (h6 : (((syncM ((appendM d (⟨#[99, 104, 97, 105, 110]⟩ : ByteArray) b)).2 (⟨#[99, 104, 97, 105, 110]⟩ : ByteArray))).1 = e)) :
 ∃ ps, runO Tryd.prog DF gPu 100 Tryd.f34 (chB ll dn d, [chX, .one (.words .u8 b)]) [.is false, .is false] (eV e) (chB ll dn (syncM (appendM d cN b).2 cN).2) = some ps ∧ AllQ ps := ⟨_, by kernel_rfl, qc (Eq.refl ((⟨#[99, 104, 97, 105, 110]⟩ : ByteArray))) (qc (Eq.refl b) (qc (Eq.refl ((d).1)) (qc (Eq.refl (((d).2).1)) (qc (Eq.refl ((((d).2).2).1)) (qc (Eq.refl (((((d).2).2).2).1)) (qc (Eq.refl (((((d).2).2).2).2)) (qc h1 (qc (show ((5 : Nat) ≤ (9223372036854775807 : Nat)) from by decide) (qc h2 (qc h3 (qc (Eq.refl ((⟨#[99, 104, 97, 105, 110]⟩ : ByteArray))) (qc (Eq.refl ((((appendM d (⟨#[99, 104, 97, 105, 110]⟩ : ByteArray) b)).2).1)) (qc (Eq.refl (((((appendM d (⟨#[99, 104, 97, 105, 110]⟩ : ByteArray) b)).2).2).1)) (qc (Eq.refl ((((((appendM d (⟨#[99, 104, 97, 105, 110]⟩ : ByteArray) b)).2).2).2).1)) (qc (Eq.refl (((((((appendM d (⟨#[99, 104, 97, 105, 110]⟩ : ByteArray) b)).2).2).2).2).1)) (qc (Eq.refl (((((((appendM d (⟨#[99, 104, 97, 105, 110]⟩ : ByteArray) b)).2).2).2).2).2)) (qc h4 (qc (show ((5 : Nat) ≤ (9223372036854775807 : Nat)) from by decide) (qc h5 (qc h6 (qc (Eq.refl dn) (qc (Eq.refl ((((syncM ((appendM d (⟨#[99, 104, 97, 105, 110]⟩ : ByteArray) b)).2 (⟨#[99, 104, 97, 105, 110]⟩ : ByteArray))).2).1)) (qc (Eq.refl (((((syncM ((appendM d (⟨#[99, 104, 97, 105, 110]⟩ : ByteArray) b)).2 (⟨#[99, 104, 97, 105, 110]⟩ : ByteArray))).2).2).1)) (qc (Eq.refl ((((((syncM ((appendM d (⟨#[99, 104, 97, 105, 110]⟩ : ByteArray) b)).2 (⟨#[99, 104, 97, 105, 110]⟩ : ByteArray))).2).2).2).1)) (qc (Eq.refl (((((((syncM ((appendM d (⟨#[99, 104, 97, 105, 110]⟩ : ByteArray) b)).2 (⟨#[99, 104, 97, 105, 110]⟩ : ByteArray))).2).2).2).2).1)) (qc (Eq.refl ll) (qc (Eq.refl (((((((syncM ((appendM d (⟨#[99, 104, 97, 105, 110]⟩ : ByteArray) b)).2 (⟨#[99, 104, 97, 105, 110]⟩ : ByteArray))).2).2).2).2).2)) (qn))))))))))))))))))))))))))))⟩
theorem pu_bad (ll : List Rec) (dn : Bool) (d : DkT) (b : List Int) (e : Int)
 (h1 : (DkOK d))
 (h2 : ((List.length b) ≤ (4611686018427387904 : Nat)))
 (h3 : ((((appendM d (⟨#[99, 104, 97, 105, 110]⟩ : ByteArray) b)).1 != (0 : Int)) = false))
 (h4 : (DkOK ((appendM d (⟨#[99, 104, 97, 105, 110]⟩ : ByteArray) b)).2))
 (h5 : ((((syncM ((appendM d (⟨#[99, 104, 97, 105, 110]⟩ : ByteArray) b)).2 (⟨#[99, 104, 97, 105, 110]⟩ : ByteArray))).1 == (42 : Int)) = true))
 (h6 : (InI64 ((112 : Int) * (((List.length ll) : Nat) : Int))))
 (h7 : (DkOK ((syncM ((appendM d (⟨#[99, 104, 97, 105, 110]⟩ : ByteArray) b)).2 (⟨#[99, 104, 97, 105, 110]⟩ : ByteArray))).2))
 (h8 : ((((cutM ((syncM ((appendM d (⟨#[99, 104, 97, 105, 110]⟩ : ByteArray) b)).2 (⟨#[99, 104, 97, 105, 110]⟩ : ByteArray))).2 (⟨#[99, 104, 97, 105, 110]⟩ : ByteArray) ((112 : Int) * (((List.length ll) : Nat) : Int)))).1 != (0 : Int)) = true))
 (h9 : (((cutM ((syncM ((appendM d (⟨#[99, 104, 97, 105, 110]⟩ : ByteArray) b)).2 (⟨#[99, 104, 97, 105, 110]⟩ : ByteArray))).2 (⟨#[99, 104, 97, 105, 110]⟩ : ByteArray) ((112 : Int) * (((List.length ll) : Nat) : Int)))).1 = e)) :
 ∃ ps, runO Tryd.prog DF gPu 100 Tryd.f34 (chB ll dn d, [chX, .one (.words .u8 b)]) [.is false, .is true, .is true] (eV e) (chB ll dn (cutM (syncM (appendM d cN b).2 cN).2 cN (112 * (ll.length : Int))).2) = some ps ∧ AllQ ps := ⟨_, by kernel_rfl, qc (Eq.refl ((⟨#[99, 104, 97, 105, 110]⟩ : ByteArray))) (qc (Eq.refl b) (qc (Eq.refl ((d).1)) (qc (Eq.refl (((d).2).1)) (qc (Eq.refl ((((d).2).2).1)) (qc (Eq.refl (((((d).2).2).2).1)) (qc (Eq.refl (((((d).2).2).2).2)) (qc h1 (qc (show ((5 : Nat) ≤ (9223372036854775807 : Nat)) from by decide) (qc h2 (qc h3 (qc (Eq.refl ((⟨#[99, 104, 97, 105, 110]⟩ : ByteArray))) (qc (Eq.refl ((((appendM d (⟨#[99, 104, 97, 105, 110]⟩ : ByteArray) b)).2).1)) (qc (Eq.refl (((((appendM d (⟨#[99, 104, 97, 105, 110]⟩ : ByteArray) b)).2).2).1)) (qc (Eq.refl ((((((appendM d (⟨#[99, 104, 97, 105, 110]⟩ : ByteArray) b)).2).2).2).1)) (qc (Eq.refl (((((((appendM d (⟨#[99, 104, 97, 105, 110]⟩ : ByteArray) b)).2).2).2).2).1)) (qc (Eq.refl (((((((appendM d (⟨#[99, 104, 97, 105, 110]⟩ : ByteArray) b)).2).2).2).2).2)) (qc h4 (qc (show ((5 : Nat) ≤ (9223372036854775807 : Nat)) from by decide) (qc h5 (qc h6 (qc (Eq.refl ((⟨#[99, 104, 97, 105, 110]⟩ : ByteArray))) (qc (Eq.refl (((112 : Int) * (((List.length ll) : Nat) : Int)))) (qc (Eq.refl ((((syncM ((appendM d (⟨#[99, 104, 97, 105, 110]⟩ : ByteArray) b)).2 (⟨#[99, 104, 97, 105, 110]⟩ : ByteArray))).2).1)) (qc (Eq.refl (((((syncM ((appendM d (⟨#[99, 104, 97, 105, 110]⟩ : ByteArray) b)).2 (⟨#[99, 104, 97, 105, 110]⟩ : ByteArray))).2).2).1)) (qc (Eq.refl ((((((syncM ((appendM d (⟨#[99, 104, 97, 105, 110]⟩ : ByteArray) b)).2 (⟨#[99, 104, 97, 105, 110]⟩ : ByteArray))).2).2).2).1)) (qc (Eq.refl (((((((syncM ((appendM d (⟨#[99, 104, 97, 105, 110]⟩ : ByteArray) b)).2 (⟨#[99, 104, 97, 105, 110]⟩ : ByteArray))).2).2).2).2).1)) (qc (Eq.refl (((((((syncM ((appendM d (⟨#[99, 104, 97, 105, 110]⟩ : ByteArray) b)).2 (⟨#[99, 104, 97, 105, 110]⟩ : ByteArray))).2).2).2).2).2)) (qc h7 (qc (show ((5 : Nat) ≤ (9223372036854775807 : Nat)) from by decide) (qc h8 (qc h9 (qc (Eq.refl dn) (qc (Eq.refl ((((cutM ((syncM ((appendM d (⟨#[99, 104, 97, 105, 110]⟩ : ByteArray) b)).2 (⟨#[99, 104, 97, 105, 110]⟩ : ByteArray))).2 (⟨#[99, 104, 97, 105, 110]⟩ : ByteArray) ((112 : Int) * (((List.length ll) : Nat) : Int)))).2).1)) (qc (Eq.refl (((((cutM ((syncM ((appendM d (⟨#[99, 104, 97, 105, 110]⟩ : ByteArray) b)).2 (⟨#[99, 104, 97, 105, 110]⟩ : ByteArray))).2 (⟨#[99, 104, 97, 105, 110]⟩ : ByteArray) ((112 : Int) * (((List.length ll) : Nat) : Int)))).2).2).1)) (qc (Eq.refl ((((((cutM ((syncM ((appendM d (⟨#[99, 104, 97, 105, 110]⟩ : ByteArray) b)).2 (⟨#[99, 104, 97, 105, 110]⟩ : ByteArray))).2 (⟨#[99, 104, 97, 105, 110]⟩ : ByteArray) ((112 : Int) * (((List.length ll) : Nat) : Int)))).2).2).2).1)) (qc (Eq.refl (((((((cutM ((syncM ((appendM d (⟨#[99, 104, 97, 105, 110]⟩ : ByteArray) b)).2 (⟨#[99, 104, 97, 105, 110]⟩ : ByteArray))).2 (⟨#[99, 104, 97, 105, 110]⟩ : ByteArray) ((112 : Int) * (((List.length ll) : Nat) : Int)))).2).2).2).2).1)) (qc (Eq.refl ll) (qc (Eq.refl (((((((cutM ((syncM ((appendM d (⟨#[99, 104, 97, 105, 110]⟩ : ByteArray) b)).2 (⟨#[99, 104, 97, 105, 110]⟩ : ByteArray))).2 (⟨#[99, 104, 97, 105, 110]⟩ : ByteArray) ((112 : Int) * (((List.length ll) : Nat) : Int)))).2).2).2).2).2)) (qn)))))))))))))))))))))))))))))))))))))))⟩
theorem pu_cut (ll : List Rec) (dn : Bool) (d : DkT) (b : List Int) (e : Int)
 (h1 : (DkOK d))
 (h2 : ((List.length b) ≤ (4611686018427387904 : Nat)))
 (h3 : ((((appendM d (⟨#[99, 104, 97, 105, 110]⟩ : ByteArray) b)).1 != (0 : Int)) = false))
 (h4 : (DkOK ((appendM d (⟨#[99, 104, 97, 105, 110]⟩ : ByteArray) b)).2))
 (h5 : ((((syncM ((appendM d (⟨#[99, 104, 97, 105, 110]⟩ : ByteArray) b)).2 (⟨#[99, 104, 97, 105, 110]⟩ : ByteArray))).1 == (42 : Int)) = true))
 (h6 : (InI64 ((112 : Int) * (((List.length ll) : Nat) : Int))))
 (h7 : (DkOK ((syncM ((appendM d (⟨#[99, 104, 97, 105, 110]⟩ : ByteArray) b)).2 (⟨#[99, 104, 97, 105, 110]⟩ : ByteArray))).2))
 (h8 : ((((cutM ((syncM ((appendM d (⟨#[99, 104, 97, 105, 110]⟩ : ByteArray) b)).2 (⟨#[99, 104, 97, 105, 110]⟩ : ByteArray))).2 (⟨#[99, 104, 97, 105, 110]⟩ : ByteArray) ((112 : Int) * (((List.length ll) : Nat) : Int)))).1 != (0 : Int)) = false))
 (h9 : (((syncM ((appendM d (⟨#[99, 104, 97, 105, 110]⟩ : ByteArray) b)).2 (⟨#[99, 104, 97, 105, 110]⟩ : ByteArray))).1 = e)) :
 ∃ ps, runO Tryd.prog DF gPu 100 Tryd.f34 (chB ll dn d, [chX, .one (.words .u8 b)]) [.is false, .is true, .is false] (eV e) (chB ll dn (cutM (syncM (appendM d cN b).2 cN).2 cN (112 * (ll.length : Int))).2) = some ps ∧ AllQ ps := ⟨_, by kernel_rfl, qc (Eq.refl ((⟨#[99, 104, 97, 105, 110]⟩ : ByteArray))) (qc (Eq.refl b) (qc (Eq.refl ((d).1)) (qc (Eq.refl (((d).2).1)) (qc (Eq.refl ((((d).2).2).1)) (qc (Eq.refl (((((d).2).2).2).1)) (qc (Eq.refl (((((d).2).2).2).2)) (qc h1 (qc (show ((5 : Nat) ≤ (9223372036854775807 : Nat)) from by decide) (qc h2 (qc h3 (qc (Eq.refl ((⟨#[99, 104, 97, 105, 110]⟩ : ByteArray))) (qc (Eq.refl ((((appendM d (⟨#[99, 104, 97, 105, 110]⟩ : ByteArray) b)).2).1)) (qc (Eq.refl (((((appendM d (⟨#[99, 104, 97, 105, 110]⟩ : ByteArray) b)).2).2).1)) (qc (Eq.refl ((((((appendM d (⟨#[99, 104, 97, 105, 110]⟩ : ByteArray) b)).2).2).2).1)) (qc (Eq.refl (((((((appendM d (⟨#[99, 104, 97, 105, 110]⟩ : ByteArray) b)).2).2).2).2).1)) (qc (Eq.refl (((((((appendM d (⟨#[99, 104, 97, 105, 110]⟩ : ByteArray) b)).2).2).2).2).2)) (qc h4 (qc (show ((5 : Nat) ≤ (9223372036854775807 : Nat)) from by decide) (qc h5 (qc h6 (qc (Eq.refl ((⟨#[99, 104, 97, 105, 110]⟩ : ByteArray))) (qc (Eq.refl (((112 : Int) * (((List.length ll) : Nat) : Int)))) (qc (Eq.refl ((((syncM ((appendM d (⟨#[99, 104, 97, 105, 110]⟩ : ByteArray) b)).2 (⟨#[99, 104, 97, 105, 110]⟩ : ByteArray))).2).1)) (qc (Eq.refl (((((syncM ((appendM d (⟨#[99, 104, 97, 105, 110]⟩ : ByteArray) b)).2 (⟨#[99, 104, 97, 105, 110]⟩ : ByteArray))).2).2).1)) (qc (Eq.refl ((((((syncM ((appendM d (⟨#[99, 104, 97, 105, 110]⟩ : ByteArray) b)).2 (⟨#[99, 104, 97, 105, 110]⟩ : ByteArray))).2).2).2).1)) (qc (Eq.refl (((((((syncM ((appendM d (⟨#[99, 104, 97, 105, 110]⟩ : ByteArray) b)).2 (⟨#[99, 104, 97, 105, 110]⟩ : ByteArray))).2).2).2).2).1)) (qc (Eq.refl (((((((syncM ((appendM d (⟨#[99, 104, 97, 105, 110]⟩ : ByteArray) b)).2 (⟨#[99, 104, 97, 105, 110]⟩ : ByteArray))).2).2).2).2).2)) (qc h7 (qc (show ((5 : Nat) ≤ (9223372036854775807 : Nat)) from by decide) (qc h8 (qc h9 (qc (Eq.refl dn) (qc (Eq.refl ((((cutM ((syncM ((appendM d (⟨#[99, 104, 97, 105, 110]⟩ : ByteArray) b)).2 (⟨#[99, 104, 97, 105, 110]⟩ : ByteArray))).2 (⟨#[99, 104, 97, 105, 110]⟩ : ByteArray) ((112 : Int) * (((List.length ll) : Nat) : Int)))).2).1)) (qc (Eq.refl (((((cutM ((syncM ((appendM d (⟨#[99, 104, 97, 105, 110]⟩ : ByteArray) b)).2 (⟨#[99, 104, 97, 105, 110]⟩ : ByteArray))).2 (⟨#[99, 104, 97, 105, 110]⟩ : ByteArray) ((112 : Int) * (((List.length ll) : Nat) : Int)))).2).2).1)) (qc (Eq.refl ((((((cutM ((syncM ((appendM d (⟨#[99, 104, 97, 105, 110]⟩ : ByteArray) b)).2 (⟨#[99, 104, 97, 105, 110]⟩ : ByteArray))).2 (⟨#[99, 104, 97, 105, 110]⟩ : ByteArray) ((112 : Int) * (((List.length ll) : Nat) : Int)))).2).2).2).1)) (qc (Eq.refl (((((((cutM ((syncM ((appendM d (⟨#[99, 104, 97, 105, 110]⟩ : ByteArray) b)).2 (⟨#[99, 104, 97, 105, 110]⟩ : ByteArray))).2 (⟨#[99, 104, 97, 105, 110]⟩ : ByteArray) ((112 : Int) * (((List.length ll) : Nat) : Int)))).2).2).2).2).1)) (qc (Eq.refl ll) (qc (Eq.refl (((((((cutM ((syncM ((appendM d (⟨#[99, 104, 97, 105, 110]⟩ : ByteArray) b)).2 (⟨#[99, 104, 97, 105, 110]⟩ : ByteArray))).2 (⟨#[99, 104, 97, 105, 110]⟩ : ByteArray) ((112 : Int) * (((List.length ll) : Nat) : Int)))).2).2).2).2).2)) (qn)))))))))))))))))))))))))))))))))))))))⟩
def putM (d : DkT) (b : List Int) (k : Nat) : Int × DkT :=
  if (appendM d cN b).1 ≠ 0 then appendM d cN b
  else if (syncM (appendM d cN b).2 cN).1 = 42 then
    (if (cutM (syncM (appendM d cN b).2 cN).2 cN (112 * (k : Int))).1 ≠ 0 then cutM (syncM (appendM d cN b).2 cN).2 cN (112 * (k : Int)) else (42, (cutM (syncM (appendM d cN b).2 cN).2 cN (112 * (k : Int))).2))
  else syncM (appendM d cN b).2 cN
abbrev ChT := List Rec × Bool × DkT
def chRd (bs : List (BoxSt DF.τ)) : Option ChT :=
  match bs with
  | [.fixed _ [.ref 1 0, .own 2, .bool _ dn], .fixed _ [.int _ _ ro, .mapr _, .int _ _ st, .int _ _ fu, .bool _ dd], .dyn _ (.lrs _ ll), .fam _ es none] => some (ll, dn, (ro, st, fu, dd, es))
  | _ => none
def chBt (c : ChT) : List (BoxSt DF.τ) := chB c.1 c.2.1 c.2.2
def puRd (bs : List (BoxSt DF.τ)) (xs : List (A0 DF.τ)) : Option (ChT × List Int) :=
  match xs with
  | [.one (.ref 0 0), .one (.words .u8 b)] => (chRd bs).map fun c => (c, b)
  | _ => none
noncomputable def putQ := mkF DF Tryd.f34.ntmps puRd (fun t => (chBt t.1, [chX, .one (.words .u8 t.2)])) (fun t => some (eV (putM t.1.2.2 t.2 t.1.1.length).1, chB t.1.1 t.1.2.1 (putM t.1.2.2 t.2 t.1.1.length).2, [OkN t.1.2.2 4611686018427387000, t.2.length ≤ 112, t.1.1.length ≤ 4611686018427387]))
theorem OkN.le {d : DkT} {m m' : Int} (h : OkN d m) (hm : m ≤ m') : OkN d m' := ⟨h.1, Int.le_trans h.2 hm⟩
theorem put_nxt {d : DkT} {m : Int} (h : OkN d m) (b : List Int) (k : Nat) : OkN (putM d b k).2 (m + 3) := by
  have h1 := h.nxt (append_nxt h.1 cN b)
  have h2 := h1.nxt (sync_nxt h1.1 cN)
  have h3 := h2.nxt (cut_nxt h2.1 cN (112 * (k : Int)))
  unfold putM
  split
  · exact h1.le (by omega)
  · split
    · split
      · exact h3.le (by omega)
      · exact h3.le (by omega)
    · exact h2.le (by omega)
theorem put_ok : OpOK Tryd.prog DF 34 putQ := by
  refine opOK_mk gPu_ok mixed Tryd.func34 (enters_of Tryd.func34 (by kernel_rfl) rfl) ?_
  rintro ⟨⟨ll, dn, d⟩, b⟩ r' bs' ps h hps
  simp only [Option.some.injEq, Prod.mk.injEq] at h
  obtain ⟨rfl, rfl, rfl⟩ := h
  have h0 : OkN d 4611686018427387000 := hps (OkN _ _) (by simp)
  have hb : b.length ≤ 112 := hps (b.length ≤ 112) (by simp)
  have hk : ll.length ≤ 4611686018427387 := hps (ll.length ≤ _) (by simp)
  have h1 := h0.nxt (append_nxt h0.1 cN b)
  have h2 := h1.nxt (sync_nxt h1.1 cN)
  have hi : InI64 (112 * (ll.length : Int)) := ⟨by omega, by omega⟩
  unfold putM
  by_cases c1 : (appendM d cN b).1 ≠ 0
  · rw [if_pos c1]
    exact ⟨_, _, pu_app ll dn d b _ (h0.dk (by decide)) (by omega) (bne_iff_ne.2 c1) rfl⟩
  rw [if_neg c1]
  have c1' : ((appendM d cN b).1 != 0) = false := Bool.eq_false_iff.2 (fun h => c1 (bne_iff_ne.1 h))
  by_cases c2 : (syncM (appendM d cN b).2 cN).1 = 42
  · rw [if_pos c2]
    by_cases c3 : (cutM (syncM (appendM d cN b).2 cN).2 cN (112 * (ll.length : Int))).1 ≠ 0
    · rw [if_pos c3]
      exact ⟨_, _, pu_bad ll dn d b _ (h0.dk (by decide)) (by omega) c1' (h1.dk (by decide)) (beq_iff_eq.2 c2) hi (h2.dk (by decide)) (bne_iff_ne.2 c3) rfl⟩
    · rw [if_neg c3]
      exact ⟨_, _, pu_cut ll dn d b _ (h0.dk (by decide)) (by omega) c1' (h1.dk (by decide)) (beq_iff_eq.2 c2) hi (h2.dk (by decide)) (Bool.eq_false_iff.2 (fun h => c3 (bne_iff_ne.1 h))) c2⟩
  · rw [if_neg c2]
    exact ⟨_, _, pu_ok ll dn d b _ (h0.dk (by decide)) (by omega) c1' (h1.dk (by decide)) (beq_false_of_ne c2) rfl⟩
noncomputable def gCa : Gam DF := [(35, .fn cwD), (34, .op [true, false] putQ)]
theorem gCa_ok : GamOK Tryd.prog DF gCa := gam_cons cw_ok (gam_op put_ok gam_nil)
theorem ca_down (ll : List Rec) (dn : Bool) (d : DkT) (r : Int) (s : List Int) (e : Int)
 (h1 : (dn = true))
 (h2 : ((2 : Int) = e)) :
 ∃ ps, runO Tryd.prog DF gCa 100 Tryd.f18 (chB ll dn d, [chX, lkP r s]) [.is true] (eV e) (chB ll dn d) = some ps ∧ AllQ ps := ⟨_, by kernel_rfl, qc h1 (qc h2 (qc (Eq.refl dn) (qc (Eq.refl ((d).1)) (qc (Eq.refl (((d).2).1)) (qc (Eq.refl ((((d).2).2).1)) (qc (Eq.refl (((((d).2).2).2).1)) (qc (Eq.refl ll) (qc (Eq.refl (((((d).2).2).2).2)) (qn)))))))))⟩
theorem ca_order (ll : List Rec) (dn : Bool) (d : DkT) (r : Int) (s : List Int) (e : Int)
 (h1 : (dn = false))
 (h2 : (InI64 ((((List.length ll) : Nat) : Int) + (1 : Int))))
 (h3 : ((r != ((((List.length ll) : Nat) : Int) + (1 : Int))) = true))
 (h4 : ((45 : Int) = e)) :
 ∃ ps, runO Tryd.prog DF gCa 100 Tryd.f18 (chB ll dn d, [chX, lkP r s]) [.is false, .is true] (eV e) (chB ll dn d) = some ps ∧ AllQ ps := ⟨_, by kernel_rfl, qc h1 (qc h2 (qc h3 (qc h4 (qc (Eq.refl dn) (qc (Eq.refl ((d).1)) (qc (Eq.refl (((d).2).1)) (qc (Eq.refl ((((d).2).2).1)) (qc (Eq.refl (((((d).2).2).2).1)) (qc (Eq.refl ll) (qc (Eq.refl (((((d).2).2).2).2)) (qn)))))))))))⟩
theorem ca_ok (ll ll' : List Rec) (dn dn' : Bool) (d d' : DkT) (r : Int) (s : List Int) (e : Int)
 (h1 : (dn = false))
 (h2 : (InI64 ((((List.length ll) : Nat) : Int) + (1 : Int))))
 (h3 : ((r != ((((List.length ll) : Nat) : Int) + (1 : Int))) = false))
 (h4 : ((List.length s) = (96 : Nat)))
 (h5 : (OkN d (4611686018427387000 : Int)))
 (h6 : ((List.length (frameL r s)) ≤ (112 : Nat)))
 (h7 : ((List.length ll) ≤ (4611686018427387 : Nat)))
 (h8 : ((((putM d (frameL r s) (List.length ll))).1 == (0 : Int)) = true))
 (h9 : ((((List.length ll) + (1 : Nat)) * (104 : Nat)) ≤ (140737488355328 : Nat)))
 (h10 : (((List.length ll) + (1 : Nat)) ≤ (9223372036854775807 : Nat)))
 (h11 : (((putM d (frameL r s) (List.length ll))).1 = e))
 (h12 : ((((putM d (frameL r s) (List.length ll))).1 == (2 : Int)) = dn'))
 (h13 : ((ll ++ [[(Fd.i r), (Fd.w s)]]) = ll')) :
 ∃ ps, runO Tryd.prog DF gCa 100 Tryd.f18 (chB ll dn d, [chX, lkP r s]) [.is false, .is false, .is true, .keep] (eV e) (chN ll' dn' (putM d (frameL r s) ll.length).2) = some ps ∧ AllQ ps := ⟨_, by kernel_rfl, qc h1 (qc h2 (qc h3 (qc h4 (qc (Eq.refl ((frameL r s))) (qc (Eq.refl dn) (qc (Eq.refl ((d).1)) (qc (Eq.refl (((d).2).1)) (qc (Eq.refl ((((d).2).2).1)) (qc (Eq.refl (((((d).2).2).2).1)) (qc (Eq.refl ll) (qc (Eq.refl (((((d).2).2).2).2)) (qc h5 (qc h6 (qc h7 (qc h8 (qc h9 (qc h10 (qc h11 (qc h12 (qc (Eq.refl ((((putM d (frameL r s) (List.length ll))).2).1)) (qc (Eq.refl (((((putM d (frameL r s) (List.length ll))).2).2).1)) (qc (Eq.refl ((((((putM d (frameL r s) (List.length ll))).2).2).2).1)) (qc (Eq.refl (((((((putM d (frameL r s) (List.length ll))).2).2).2).2).1)) (qc (Eq.refl (((((((putM d (frameL r s) (List.length ll))).2).2).2).2).2)) (qc h13 (qn))))))))))))))))))))))))))⟩
theorem ca_err (ll : List Rec) (dn dn' : Bool) (d : DkT) (r : Int) (s : List Int) (e : Int)
 (h1 : (dn = false))
 (h2 : (InI64 ((((List.length ll) : Nat) : Int) + (1 : Int))))
 (h3 : ((r != ((((List.length ll) : Nat) : Int) + (1 : Int))) = false))
 (h4 : ((List.length s) = (96 : Nat)))
 (h5 : (OkN d (4611686018427387000 : Int)))
 (h6 : ((List.length (frameL r s)) ≤ (112 : Nat)))
 (h7 : ((List.length ll) ≤ (4611686018427387 : Nat)))
 (h8 : ((((putM d (frameL r s) (List.length ll))).1 == (0 : Int)) = false))
 (h9 : (((putM d (frameL r s) (List.length ll))).1 = e))
 (h10 : ((((putM d (frameL r s) (List.length ll))).1 == (2 : Int)) = dn')) :
 ∃ ps, runO Tryd.prog DF gCa 100 Tryd.f18 (chB ll dn d, [chX, lkP r s]) [.is false, .is false, .is false, .keep] (eV e) (chB ll dn' (putM d (frameL r s) ll.length).2) = some ps ∧ AllQ ps := ⟨_, by kernel_rfl, qc h1 (qc h2 (qc h3 (qc h4 (qc (Eq.refl ((frameL r s))) (qc (Eq.refl dn) (qc (Eq.refl ((d).1)) (qc (Eq.refl (((d).2).1)) (qc (Eq.refl ((((d).2).2).1)) (qc (Eq.refl (((((d).2).2).2).1)) (qc (Eq.refl ll) (qc (Eq.refl (((((d).2).2).2).2)) (qc h5 (qc h6 (qc h7 (qc h8 (qc h9 (qc h10 (qc (Eq.refl ((((putM d (frameL r s) (List.length ll))).2).1)) (qc (Eq.refl (((((putM d (frameL r s) (List.length ll))).2).2).1)) (qc (Eq.refl ((((((putM d (frameL r s) (List.length ll))).2).2).2).1)) (qc (Eq.refl (((((((putM d (frameL r s) (List.length ll))).2).2).2).2).1)) (qc (Eq.refl ll) (qc (Eq.refl (((((((putM d (frameL r s) (List.length ll))).2).2).2).2).2)) (qn))))))))))))))))))))))))⟩
theorem la_nil  :
 ∃ ps, runO Tryd.prog DF gCa 100 Tryd.f13 ([], [.one .nilp]) [] (.v (.one (.int .i64 true 0))) [] = some ps ∧ AllQ ps := ⟨_, by kernel_rfl, qn⟩
theorem la_run (ll : List Rec) (dn : Bool) (d : DkT) (k : Int)
 (h1 : ((((List.length ll) : Nat) : Int) = k)) :
 ∃ ps, runO Tryd.prog DF gCa 100 Tryd.f13 (chB ll dn d, [chX]) [] (eV k) (chB ll dn d) = some ps ∧ AllQ ps := ⟨_, by kernel_rfl, qc h1 (qc (Eq.refl dn) (qc (Eq.refl ((d).1)) (qc (Eq.refl (((d).2).1)) (qc (Eq.refl ((((d).2).2).1)) (qc (Eq.refl (((((d).2).2).2).1)) (qc (Eq.refl ll) (qc (Eq.refl (((((d).2).2).2).2)) (qn))))))))⟩
end Go.Num

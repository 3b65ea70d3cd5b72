/- SHA-256: what Write does. -/
import Derived.Test.YtjglidfemgodiaaDoorS2
namespace Go.Num
open Go.Abs Go.Proofs Go.Shelf

noncomputable def gamW : Gam DS := [(31, .op [true, false] takeD)]

theorem gamW_ok : GamOK Tryd.prog DS gamW := gam_op take_ok gam_nil

def wrSn (s r l : List Int) (n : Int) : Sn DS.τ where
  slots := [(0, .v (.one (.ref 0 0))), (1, .v (.one (.words .u8 l)))]
  boxes := [(0, .fixed 50 (hashP s r n))]
  nt := 69
  np := 1

def wrPre (s r l : List Int) (n : Int) : List (BoxSt DS.τ) × List (A0 DS.τ) := ([.fixed 50 (hashP s r n)], [.one (.ref 0 0), .one (.words .u8 l)])

theorem wr_round_r (s r l s' l' : List Int) (n : Int) : stepPs Tryd.prog DS gamW 100 (bodyN Tryd.f17 0) 100 (wrSn s r l n).st [.is true] .normal (wrSn s' r l' n) =
    some [((decide ((((List.length l) : Nat) : Int) ≥ (64 : Int))) = Bool.true), ((64 : Nat) ≤ (List.length l)), ((List.take (64 : Nat) l) = (List.take (64 : Nat) l)), (s = s), (r = r), (n = n), ((0 : Int) ≤ (64 : Int)), ((64 : Int) ≤ (((List.length l) : Nat) : Int)), ((((List.length l) : Nat) : Int) ≤ (((List.length l) : Nat) : Int)), ((List.drop (64 : Nat) (List.take (Int.toNat (((List.length l) : Nat) : Int)) l)) = l'), ((Go.Num.ts4 s (Go.Num.tv3 (Go.Num.tw2 (Go.Num.tw0 (List.take (64 : Nat) l) (16 : Nat)) (48 : Nat)) s (64 : Nat)) (8 : Nat)) = s'), (r = r), (n = n)] := by kernel_rfl
theorem wr_round (s r l s' l' : List Int) (n : Int)
    (h1 : ((decide ((((List.length l) : Nat) : Int) ≥ (64 : Int))) = Bool.true))
    (h2 : ((64 : Nat) ≤ (List.length l)))
    (h3 : ((64 : Int) ≤ (((List.length l) : Nat) : Int)))
    (h4 : ((((List.length l) : Nat) : Int) ≤ (((List.length l) : Nat) : Int)))
    (h5 : ((List.drop (64 : Nat) (List.take (Int.toNat (((List.length l) : Nat) : Int)) l)) = l'))
    (h6 : ((Go.Num.ts4 s (Go.Num.tv3 (Go.Num.tw2 (Go.Num.tw0 (List.take (64 : Nat) l) (16 : Nat)) (48 : Nat)) s (64 : Nat)) (8 : Nat)) = s')) :
    ∃ ps, stepPs Tryd.prog DS gamW 100 (bodyN Tryd.f17 0) 100 (wrSn s r l n).st [.is true] .normal (wrSn s' r l' n) = some ps ∧ AllQ ps := ⟨_, wr_round_r s r l s' l' n, AllP.all ⟨h1, h2, rfl, rfl, rfl, rfl, (show ((0 : Int) ≤ (64 : Int)) from by decide), h3, h4, h5, h6, rfl, rfl⟩⟩

theorem wr_exit_r (s r l : List Int) (n : Int) : stepPs Tryd.prog DS gamW 100 (bodyN Tryd.f17 0) 100 (wrSn s r l n).st [.is false] (.exit 0) (wrSn s r l n) =
    some [((decide ((((List.length l) : Nat) : Int) ≥ (64 : Int))) = Bool.false), (l = l), (s = s), (r = r), (n = n)] := by kernel_rfl
theorem wr_exit (s r l : List Int) (n : Int)
    (h1 : ((decide ((((List.length l) : Nat) : Int) ≥ (64 : Int))) = Bool.false)) :
    ∃ ps, stepPs Tryd.prog DS gamW 100 (bodyN Tryd.f17 0) 100 (wrSn s r l n).st [.is false] (.exit 0) (wrSn s r l n) = some ps ∧ AllQ ps := ⟨_, wr_exit_r s r l n, AllP.all ⟨h1, rfl, rfl, rfl, rfl⟩⟩

theorem wr_new_r (s r l s' r' l' : List Int) (n n1 : Int) : runO Tryd.prog DS gamW 100 Tryd.f17 (wrPre s r l n) [.is true, .is false, .loop (loopL DS (wrSn firstL r l n1) (.exit 0) (wrSn s' r l' n1))] (.tup []) [.fixed 50 (hashP s' r' n1)] =
    some [((n == (0 : Int)) = Bool.true), (Go.Abs.InI64 (n + (((List.length l) : Nat) : Int))), ((decide ((Int.tmod n (64 : Int)) > (0 : Int))) = Bool.false), SumOK Tryd.prog DS (bodyN Tryd.f17 0) (loopL DS (wrSn firstL r l n1) (.exit 0) (wrSn s' r l' n1)), (l = l), (((1779033703 : Int) :: ((3144134277 : Int) :: ((1013904242 : Int) :: ((2773480762 : Int) :: ((1359893119 : Int) :: ((2600822924 : Int) :: ((528734635 : Int) :: ((1541459225 : Int) :: ([] : List (Int)))))))))) = ((1779033703 : Int) :: ((3144134277 : Int) :: ((1013904242 : Int) :: ((2773480762 : Int) :: ((1359893119 : Int) :: ((2600822924 : Int) :: ((528734635 : Int) :: ((1541459225 : Int) :: ([] : List (Int))))))))))), (r = r), ((n + (((List.length l) : Nat) : Int)) = n1), ((0 : Int) ≤ (0 : Int)), ((0 : Int) ≤ (((64 : Nat) : Nat) : Int)), ((((64 : Nat) : Nat) : Int) ≤ (((64 : Nat) : Nat) : Int)), ((0 : Int) < (((64 : Nat) : Nat) : Int)), (s' = s'), ((((List.take (0 : Nat) r) ++ (List.take ((64 : Nat) - (0 : Nat)) l')) ++ (List.drop ((0 : Nat) + (List.length (List.take ((64 : Nat) - (0 : Nat)) l'))) r)) = r'), (n1 = n1)] := by kernel_rfl
theorem wr_new (s r l s' r' l' : List Int) (n n1 : Int)
    (h1 : ((n == (0 : Int)) = Bool.true))
    (h2 : (Go.Abs.InI64 (n + (((List.length l) : Nat) : Int))))
    (h3 : ((decide ((Int.tmod n (64 : Int)) > (0 : Int))) = Bool.false))
    (h4 : SumOK Tryd.prog DS (bodyN Tryd.f17 0) (loopL DS (wrSn firstL r l n1) (.exit 0) (wrSn s' r l' n1)))
    (h5 : ((n + (((List.length l) : Nat) : Int)) = n1))
    (h6 : ((((List.take (0 : Nat) r) ++ (List.take ((64 : Nat) - (0 : Nat)) l')) ++ (List.drop ((0 : Nat) + (List.length (List.take ((64 : Nat) - (0 : Nat)) l'))) r)) = r')) :
    ∃ ps, runO Tryd.prog DS gamW 100 Tryd.f17 (wrPre s r l n) [.is true, .is false, .loop (loopL DS (wrSn firstL r l n1) (.exit 0) (wrSn s' r l' n1))] (.tup []) [.fixed 50 (hashP s' r' n1)] = some ps ∧ AllQ ps := ⟨_, wr_new_r s r l s' r' l' n n1, AllP.all ⟨h1, h2, h3, h4, rfl, rfl, rfl, h5, (show ((0 : Int) ≤ (0 : Int)) from by decide), (show ((0 : Int) ≤ (((64 : Nat) : Nat) : Int)) from by decide), (show ((((64 : Nat) : Nat) : Int) ≤ (((64 : Nat) : Nat) : Int)) from by decide), (show ((0 : Int) < (((64 : Nat) : Nat) : Int)) from by decide), rfl, h6, rfl⟩⟩

theorem wr_even_r (s r l s' r' l' : List Int) (n n1 : Int) : runO Tryd.prog DS gamW 100 Tryd.f17 (wrPre s r l n) [.is false, .is false, .loop (loopL DS (wrSn s r l n1) (.exit 0) (wrSn s' r l' n1))] (.tup []) [.fixed 50 (hashP s' r' n1)] =
    some [((n == (0 : Int)) = Bool.false), (Go.Abs.InI64 (n + (((List.length l) : Nat) : Int))), ((decide ((Int.tmod n (64 : Int)) > (0 : Int))) = Bool.false), SumOK Tryd.prog DS (bodyN Tryd.f17 0) (loopL DS (wrSn s r l n1) (.exit 0) (wrSn s' r l' n1)), (l = l), (s = s), (r = r), ((n + (((List.length l) : Nat) : Int)) = n1), ((0 : Int) ≤ (0 : Int)), ((0 : Int) ≤ (((64 : Nat) : Nat) : Int)), ((((64 : Nat) : Nat) : Int) ≤ (((64 : Nat) : Nat) : Int)), ((0 : Int) < (((64 : Nat) : Nat) : Int)), (s' = s'), ((((List.take (0 : Nat) r) ++ (List.take ((64 : Nat) - (0 : Nat)) l')) ++ (List.drop ((0 : Nat) + (List.length (List.take ((64 : Nat) - (0 : Nat)) l'))) r)) = r'), (n1 = n1)] := by kernel_rfl
theorem wr_even (s r l s' r' l' : List Int) (n n1 : Int)
    (h1 : ((n == (0 : Int)) = Bool.false))
    (h2 : (Go.Abs.InI64 (n + (((List.length l) : Nat) : Int))))
    (h3 : ((decide ((Int.tmod n (64 : Int)) > (0 : Int))) = Bool.false))
    (h4 : SumOK Tryd.prog DS (bodyN Tryd.f17 0) (loopL DS (wrSn s r l n1) (.exit 0) (wrSn s' r l' n1)))
    (h5 : ((n + (((List.length l) : Nat) : Int)) = n1))
    (h6 : ((((List.take (0 : Nat) r) ++ (List.take ((64 : Nat) - (0 : Nat)) l')) ++ (List.drop ((0 : Nat) + (List.length (List.take ((64 : Nat) - (0 : Nat)) l'))) r)) = r')) :
    ∃ ps, runO Tryd.prog DS gamW 100 Tryd.f17 (wrPre s r l n) [.is false, .is false, .loop (loopL DS (wrSn s r l n1) (.exit 0) (wrSn s' r l' n1))] (.tup []) [.fixed 50 (hashP s' r' n1)] = some ps ∧ AllQ ps := ⟨_, wr_even_r s r l s' r' l' n n1, AllP.all ⟨h1, h2, h3, h4, rfl, rfl, rfl, h5, (show ((0 : Int) ≤ (0 : Int)) from by decide), (show ((0 : Int) ≤ (((64 : Nat) : Nat) : Int)) from by decide), (show ((((64 : Nat) : Nat) : Int) ≤ (((64 : Nat) : Nat) : Int)) from by decide), (show ((0 : Int) < (((64 : Nat) : Nat) : Int)) from by decide), rfl, h6, rfl⟩⟩

theorem wr_few_r (s r l r' : List Int) (n n1 : Int) : runO Tryd.prog DS gamW 100 Tryd.f17 (wrPre s r l n) [.is false, .is true, .is true] (.tup []) [.fixed 50 (hashP s r' n1)] =
    some [((n == (0 : Int)) = Bool.false), (Go.Abs.InI64 (n + (((List.length l) : Nat) : Int))), ((decide ((Int.tmod n (64 : Int)) > (0 : Int))) = Bool.true), ((0 : Int) ≤ (Int.tmod n (64 : Int))), ((Int.tmod n (64 : Int)) ≤ (((64 : Nat) : Nat) : Int)), ((((64 : Nat) : Nat) : Int) ≤ (((64 : Nat) : Nat) : Int)), ((Int.tmod n (64 : Int)) < (((64 : Nat) : Nat) : Int)), (Go.Abs.InI64 ((Int.tmod n (64 : Int)) + (((min ((64 : Nat) - (Int.toNat (Int.tmod n (64 : Int)))) (List.length l)) : Nat) : Int))), ((decide (((Int.tmod n (64 : Int)) + (((min ((64 : Nat) - (Int.toNat (Int.tmod n (64 : Int)))) (List.length l)) : Nat) : Int)) < (64 : Int))) = Bool.true), (s = s), ((((List.take (Int.toNat (Int.tmod n (64 : Int))) r) ++ (List.take ((64 : Nat) - (Int.toNat (Int.tmod n (64 : Int)))) l)) ++ (List.drop ((Int.toNat (Int.tmod n (64 : Int))) + (List.length (List.take ((64 : Nat) - (Int.toNat (Int.tmod n (64 : Int)))) l))) r)) = r'), ((n + (((List.length l) : Nat) : Int)) = n1)] := by kernel_rfl
theorem wr_few (s r l r' : List Int) (n n1 : Int)
    (h1 : ((n == (0 : Int)) = Bool.false))
    (h2 : (Go.Abs.InI64 (n + (((List.length l) : Nat) : Int))))
    (h3 : ((decide ((Int.tmod n (64 : Int)) > (0 : Int))) = Bool.true))
    (h4 : ((0 : Int) ≤ (Int.tmod n (64 : Int))))
    (h5 : ((Int.tmod n (64 : Int)) ≤ (((64 : Nat) : Nat) : Int)))
    (h6 : ((Int.tmod n (64 : Int)) < (((64 : Nat) : Nat) : Int)))
    (h7 : (Go.Abs.InI64 ((Int.tmod n (64 : Int)) + (((min ((64 : Nat) - (Int.toNat (Int.tmod n (64 : Int)))) (List.length l)) : Nat) : Int))))
    (h8 : ((decide (((Int.tmod n (64 : Int)) + (((min ((64 : Nat) - (Int.toNat (Int.tmod n (64 : Int)))) (List.length l)) : Nat) : Int)) < (64 : Int))) = Bool.true))
    (h9 : ((((List.take (Int.toNat (Int.tmod n (64 : Int))) r) ++ (List.take ((64 : Nat) - (Int.toNat (Int.tmod n (64 : Int)))) l)) ++ (List.drop ((Int.toNat (Int.tmod n (64 : Int))) + (List.length (List.take ((64 : Nat) - (Int.toNat (Int.tmod n (64 : Int)))) l))) r)) = r'))
    (h10 : ((n + (((List.length l) : Nat) : Int)) = n1)) :
    ∃ ps, runO Tryd.prog DS gamW 100 Tryd.f17 (wrPre s r l n) [.is false, .is true, .is true] (.tup []) [.fixed 50 (hashP s r' n1)] = some ps ∧ AllQ ps := ⟨_, wr_few_r s r l r' n n1, AllP.all ⟨h1, h2, h3, h4, h5, (show ((((64 : Nat) : Nat) : Int) ≤ (((64 : Nat) : Nat) : Int)) from by decide), h6, h7, h8, rfl, h9, h10⟩⟩

theorem wr_more_r (s r l s1 r1 l1 s' r' l' : List Int) (n n1 : Int) : runO Tryd.prog DS gamW 100 Tryd.f17 (wrPre s r l n) [.is false, .is true, .is false, .loop (loopL DS (wrSn s1 r1 l1 n1) (.exit 0) (wrSn s' r1 l' n1))] (.tup []) [.fixed 50 (hashP s' r' n1)] =
    some [((n == (0 : Int)) = Bool.false), (Go.Abs.InI64 (n + (((List.length l) : Nat) : Int))), ((decide ((Int.tmod n (64 : Int)) > (0 : Int))) = Bool.true), ((0 : Int) ≤ (Int.tmod n (64 : Int))), ((Int.tmod n (64 : Int)) ≤ (((64 : Nat) : Nat) : Int)), ((((64 : Nat) : Nat) : Int) ≤ (((64 : Nat) : Nat) : Int)), ((Int.tmod n (64 : Int)) < (((64 : Nat) : Nat) : Int)), (Go.Abs.InI64 ((Int.tmod n (64 : Int)) + (((min ((64 : Nat) - (Int.toNat (Int.tmod n (64 : Int)))) (List.length l)) : Nat) : Int))), ((decide (((Int.tmod n (64 : Int)) + (((min ((64 : Nat) - (Int.toNat (Int.tmod n (64 : Int)))) (List.length l)) : Nat) : Int)) < (64 : Int))) = Bool.false), ((0 : Int) ≤ (((min ((64 : Nat) - (Int.toNat (Int.tmod n (64 : Int)))) (List.length l)) : Nat) : Int)), ((((min ((64 : Nat) - (Int.toNat (Int.tmod n (64 : Int)))) (List.length l)) : Nat) : Int) ≤ (((List.length l) : Nat) : Int)), ((((List.length l) : Nat) : Int) ≤ (((List.length l) : Nat) : Int)), ((((List.take (Int.toNat (Int.tmod n (64 : Int))) r) ++ (List.take ((64 : Nat) - (Int.toNat (Int.tmod n (64 : Int)))) l)) ++ (List.drop ((Int.toNat (Int.tmod n (64 : Int))) + (List.length (List.take ((64 : Nat) - (Int.toNat (Int.tmod n (64 : Int)))) l))) r)) = (((List.take (Int.toNat (Int.tmod n (64 : Int))) r) ++ (List.take ((64 : Nat) - (Int.toNat (Int.tmod n (64 : Int)))) l)) ++ (List.drop ((Int.toNat (Int.tmod n (64 : Int))) + (List.length (List.take ((64 : Nat) - (Int.toNat (Int.tmod n (64 : Int)))) l))) r))), (s = s), ((((List.take (Int.toNat (Int.tmod n (64 : Int))) r) ++ (List.take ((64 : Nat) - (Int.toNat (Int.tmod n (64 : Int)))) l)) ++ (List.drop ((Int.toNat (Int.tmod n (64 : Int))) + (List.length (List.take ((64 : Nat) - (Int.toNat (Int.tmod n (64 : Int)))) l))) r)) = (((List.take (Int.toNat (Int.tmod n (64 : Int))) r) ++ (List.take ((64 : Nat) - (Int.toNat (Int.tmod n (64 : Int)))) l)) ++ (List.drop ((Int.toNat (Int.tmod n (64 : Int))) + (List.length (List.take ((64 : Nat) - (Int.toNat (Int.tmod n (64 : Int)))) l))) r))), ((n + (((List.length l) : Nat) : Int)) = (n + (((List.length l) : Nat) : Int))), SumOK Tryd.prog DS (bodyN Tryd.f17 0) (loopL DS (wrSn s1 r1 l1 n1) (.exit 0) (wrSn s' r1 l' n1)), ((List.drop (Int.toNat (((min ((64 : Nat) - (Int.toNat (Int.tmod n (64 : Int)))) (List.length l)) : Nat) : Int)) (List.take (Int.toNat (((List.length l) : Nat) : Int)) l)) = l1), ((Go.Num.ts4 s (Go.Num.tv3 (Go.Num.tw2 (Go.Num.tw0 (((List.take (Int.toNat (Int.tmod n (64 : Int))) r) ++ (List.take ((64 : Nat) - (Int.toNat (Int.tmod n (64 : Int)))) l)) ++ (List.drop ((Int.toNat (Int.tmod n (64 : Int))) + (List.length (List.take ((64 : Nat) - (Int.toNat (Int.tmod n (64 : Int)))) l))) r)) (16 : Nat)) (48 : Nat)) s (64 : Nat)) (8 : Nat)) = s1), ((((List.take (Int.toNat (Int.tmod n (64 : Int))) r) ++ (List.take ((64 : Nat) - (Int.toNat (Int.tmod n (64 : Int)))) l)) ++ (List.drop ((Int.toNat (Int.tmod n (64 : Int))) + (List.length (List.take ((64 : Nat) - (Int.toNat (Int.tmod n (64 : Int)))) l))) r)) = r1), ((n + (((List.length l) : Nat) : Int)) = n1), ((0 : Int) ≤ (0 : Int)), ((0 : Int) ≤ (((64 : Nat) : Nat) : Int)), ((((64 : Nat) : Nat) : Int) ≤ (((64 : Nat) : Nat) : Int)), ((0 : Int) < (((64 : Nat) : Nat) : Int)), (s' = s'), ((((List.take (0 : Nat) r1) ++ (List.take ((64 : Nat) - (0 : Nat)) l')) ++ (List.drop ((0 : Nat) + (List.length (List.take ((64 : Nat) - (0 : Nat)) l'))) r1)) = r'), (n1 = n1)] := by kernel_rfl
theorem wr_more (s r l s1 r1 l1 s' r' l' : List Int) (n n1 : Int)
    (h1 : ((n == (0 : Int)) = Bool.false))
    (h2 : (Go.Abs.InI64 (n + (((List.length l) : Nat) : Int))))
    (h3 : ((decide ((Int.tmod n (64 : Int)) > (0 : Int))) = Bool.true))
    (h4 : ((0 : Int) ≤ (Int.tmod n (64 : Int))))
    (h5 : ((Int.tmod n (64 : Int)) ≤ (((64 : Nat) : Nat) : Int)))
    (h6 : ((Int.tmod n (64 : Int)) < (((64 : Nat) : Nat) : Int)))
    (h7 : (Go.Abs.InI64 ((Int.tmod n (64 : Int)) + (((min ((64 : Nat) - (Int.toNat (Int.tmod n (64 : Int)))) (List.length l)) : Nat) : Int))))
    (h8 : ((decide (((Int.tmod n (64 : Int)) + (((min ((64 : Nat) - (Int.toNat (Int.tmod n (64 : Int)))) (List.length l)) : Nat) : Int)) < (64 : Int))) = Bool.false))
    (h9 : ((0 : Int) ≤ (((min ((64 : Nat) - (Int.toNat (Int.tmod n (64 : Int)))) (List.length l)) : Nat) : Int)))
    (h10 : ((((min ((64 : Nat) - (Int.toNat (Int.tmod n (64 : Int)))) (List.length l)) : Nat) : Int) ≤ (((List.length l) : Nat) : Int)))
    (h11 : ((((List.length l) : Nat) : Int) ≤ (((List.length l) : Nat) : Int)))
    (h12 : SumOK Tryd.prog DS (bodyN Tryd.f17 0) (loopL DS (wrSn s1 r1 l1 n1) (.exit 0) (wrSn s' r1 l' n1)))
    (h13 : ((List.drop (Int.toNat (((min ((64 : Nat) - (Int.toNat (Int.tmod n (64 : Int)))) (List.length l)) : Nat) : Int)) (List.take (Int.toNat (((List.length l) : Nat) : Int)) l)) = l1))
    (h14 : ((Go.Num.ts4 s (Go.Num.tv3 (Go.Num.tw2 (Go.Num.tw0 (((List.take (Int.toNat (Int.tmod n (64 : Int))) r) ++ (List.take ((64 : Nat) - (Int.toNat (Int.tmod n (64 : Int)))) l)) ++ (List.drop ((Int.toNat (Int.tmod n (64 : Int))) + (List.length (List.take ((64 : Nat) - (Int.toNat (Int.tmod n (64 : Int)))) l))) r)) (16 : Nat)) (48 : Nat)) s (64 : Nat)) (8 : Nat)) = s1))
    (h15 : ((((List.take (Int.toNat (Int.tmod n (64 : Int))) r) ++ (List.take ((64 : Nat) - (Int.toNat (Int.tmod n (64 : Int)))) l)) ++ (List.drop ((Int.toNat (Int.tmod n (64 : Int))) + (List.length (List.take ((64 : Nat) - (Int.toNat (Int.tmod n (64 : Int)))) l))) r)) = r1))
    (h16 : ((n + (((List.length l) : Nat) : Int)) = n1))
    (h17 : ((((List.take (0 : Nat) r1) ++ (List.take ((64 : Nat) - (0 : Nat)) l')) ++ (List.drop ((0 : Nat) + (List.length (List.take ((64 : Nat) - (0 : Nat)) l'))) r1)) = r')) :
    ∃ ps, runO Tryd.prog DS gamW 100 Tryd.f17 (wrPre s r l n) [.is false, .is true, .is false, .loop (loopL DS (wrSn s1 r1 l1 n1) (.exit 0) (wrSn s' r1 l' n1))] (.tup []) [.fixed 50 (hashP s' r' n1)] = some ps ∧ AllQ ps := ⟨_, wr_more_r s r l s1 r1 l1 s' r' l' n n1, AllP.all ⟨h1, h2, h3, h4, h5, (show ((((64 : Nat) : Nat) : Int) ≤ (((64 : Nat) : Nat) : Int)) from by decide), h6, h7, h8, h9, h10, h11, rfl, rfl, rfl, rfl, h12, h13, h14, h15, h16, (show ((0 : Int) ≤ (0 : Int)) from by decide), (show ((0 : Int) ≤ (((64 : Nat) : Nat) : Int)) from by decide), (show ((((64 : Nat) : Nat) : Int) ≤ (((64 : Nat) : Nat) : Int)) from by decide), (show ((0 : Int) < (((64 : Nat) : Nat) : Int)) from by decide), rfl, h17, rfl⟩⟩

theorem wr_nil_r (l : List Int) : runO Tryd.prog DS gamW 100 Tryd.f17 ([], [.one .nilp, .one (.words .u8 l)]) [] (.tup []) [] =
    some [] := by kernel_rfl
theorem wr_nil (l : List Int) :
    ∃ ps, runO Tryd.prog DS gamW 100 Tryd.f17 ([], [.one .nilp, .one (.words .u8 l)]) [] (.tup []) [] = some ps ∧ AllQ ps := ⟨_, wr_nil_r l, allQ_nil⟩

/-- The state behind so many whole blocks. -/
def eat (s l : List Int) : Nat → List Int
  | 0 => s
  | k + 1 => takeF (eat s l k) ((l.drop (64 * k)).take 64)

def eatAll (s r l : List Int) : List Int × List Int := (eat s l (l.length / 64), over r 0 ((l.drop (64 * (l.length / 64))).take 64))

/-- What a hash that has taken N bytes becomes. -/
def writeF (s r : List Int) (N : Nat) (l : List Int) : List Int × List Int :=
  if N % 64 = 0 then eatAll (if N = 0 then firstL else s) r l
  else if N % 64 + l.length < 64 then (s, over r (N % 64) (l.take (64 - N % 64)))
  else eatAll (takeF s (over r (N % 64) (l.take (64 - N % 64)))) (over r (N % 64) (l.take (64 - N % 64))) (l.drop (64 - N % 64))

def writeS (s r : List Int) (N : Nat) (l : List Int) : List Int := (writeF s r N l).1
def writeR (s r : List Int) (N : Nat) (l : List Int) : List Int := (writeF s r N l).2

theorem drop_take_len {l : List Int} {k : Nat} : List.drop k (List.take (Int.toNat (l.length : Int)) l) = l.drop k := by
  rw [Int.toNat_natCast, List.take_length]

theorem wr_loop (s r l : List Int) (n : Int) : SumOK Tryd.prog DS (bodyN Tryd.f17 0) (loopL DS (wrSn s r l n) (.exit 0) (wrSn (eat s l (l.length / 64)) r (l.drop (64 * (l.length / 64))) n)) := by
  have hI : ∀ k, (wrSn (eat s l k) r (l.drop (64 * k)) n) = wrSn (eat s l k) r (l.drop (64 * k)) n := fun _ => rfl
  have h := sum_loop gamW_ok mixed (c := bodyN Tryd.f17 0) (fun k => wrSn (eat s l k) r (l.drop (64 * k)) n) (l.length / 64) (e := .exit 0) (s := wrSn (eat s l (l.length / 64)) r (l.drop (64 * (l.length / 64))) n) rfl (fun k hk => ?_) ?_
  · simpa only [eat, Nat.mul_zero, List.drop_zero] using h
  · have hlen : 64 ≤ (l.drop (64 * k)).length := by rw [List.length_drop]; omega
    refine ⟨_, _, _, wr_round (eat s l k) r (l.drop (64 * k)) (eat s l (k + 1)) (l.drop (64 * (k + 1))) n (decide_eq_true (by omega)) hlen (by omega) (by omega) ?_ rfl⟩
    rw [drop_take_len, List.drop_drop]
    rw [show 64 * k + 64 = 64 * (k + 1) from by omega]
  · exact ⟨_, _, _, wr_exit _ r _ n (decide_eq_false (by rw [List.length_drop]; omega))⟩

inductive WrT where
  | nil (l : List Int)
  | one (s r : List Int) (n : Int) (l : List Int)

def wrRd : List (BoxSt DS.τ) → List (A0 DS.τ) → Option WrT
  | [], [.one .nilp, .one (.words .u8 l)] => some (.nil l)
  | [.fixed _ ps], [.one (.ref 0 0), .one (.words .u8 l)] => match hashOf ps with
    | some (s, r, n) => some (.one s r n l)
    | none => none
  | _, _ => none

def wrPreT : WrT → List (BoxSt DS.τ) × List (A0 DS.τ)
  | .nil l => ([], [.one .nilp, .one (.words .u8 l)])
  | .one s r n l => wrPre s r l n

def wrPost : WrT → Option (AV DS.τ × List (BoxSt DS.τ) × List Prop)
  | .nil _ => some (.tup [], [], [])
  | .one s r n l => some (.tup [], [.fixed 50 (hashP (writeS s r n.toNat l) (writeR s r n.toNat l) (n + l.length))], [0 ≤ n, n + l.length ≤ 9223372036854775807])

noncomputable def wrD := mkF DS Tryd.f17.ntmps wrRd wrPreT wrPost

theorem write_ok : OpOK Tryd.prog DS 17 wrD := by
  refine opOK_mk gamW_ok mixed Tryd.func17 (enters_of Tryd.func17 (by kernel_rfl) rfl) ?_
  rintro (l | ⟨s, r, n, l⟩) r' bs' ps h hps
  · simp only [wrPost, Option.some.injEq, Prod.mk.injEq] at h
    obtain ⟨rfl, rfl, rfl⟩ := h
    exact ⟨_, _, wr_nil l⟩
  · simp only [wrPost, Option.some.injEq, Prod.mk.injEq] at h
    obtain ⟨rfl, rfl, rfl⟩ := h
    have h0 : 0 ≤ n := hps _ (by simp)
    have h1 : n + l.length ≤ 9223372036854775807 := hps _ (by simp)
    obtain ⟨N, rfl⟩ : ∃ N : Nat, n = N := ⟨n.toNat, by omega⟩
    simp only [Int.toNat_natCast, writeS, writeR]
    have hm : Int.tmod (N : Int) 64 = ((N % 64 : Nat) : Int) := by
      rw [Int.tmod_eq_emod_of_nonneg (by omega)]; omega
    have hin : InI64 ((N : Int) + l.length) := ⟨by omega, by omega⟩
    by_cases hN : N = 0
    · subst hN
      exact ⟨_, _, wr_new s r l _ _ _ _ _ rfl hin rfl (wr_loop firstL r l _) rfl rfl⟩
    have hne : ((N : Int) == 0) = false := by rw [beq_eq_false_iff_ne]; omega
    by_cases ha : N % 64 = 0
    · have e : writeF s r N l = eatAll s r l := by unfold writeF; rw [if_pos ha, if_neg hN]
      rw [e]
      exact ⟨_, _, wr_even s r l _ _ _ _ _ hne hin (decide_eq_false (by omega)) (wr_loop s r l _) rfl rfl⟩
    by_cases hf : N % 64 + l.length < 64
    · have e : writeF s r N l = (s, over r (N % 64) (l.take (64 - N % 64))) := by unfold writeF; rw [if_neg ha, if_pos hf]
      rw [e]
      refine ⟨_, _, wr_few s r l _ _ _ hne hin (decide_eq_true (by omega)) (by omega) (by omega) (by omega) ⟨by omega, by omega⟩ (decide_eq_true (by rw [hm]; omega)) ?_ rfl⟩
      rw [hm, Int.toNat_natCast]
      rfl
    · have e : writeF s r N l = eatAll (takeF s (over r (N % 64) (l.take (64 - N % 64)))) (over r (N % 64) (l.take (64 - N % 64))) (l.drop (64 - N % 64)) := by unfold writeF; rw [if_neg ha, if_neg hf]
      rw [e]
      refine ⟨_, _, wr_more s r l (takeF s (over r (N % 64) (l.take (64 - N % 64)))) (over r (N % 64) (l.take (64 - N % 64))) (l.drop (64 - N % 64)) _ _ _ _ _ hne hin (decide_eq_true (by omega)) (by omega) (by omega) (by omega) ⟨by omega, by omega⟩ (decide_eq_false (by rw [hm]; omega)) (by omega) (by omega) (by omega) (wr_loop _ _ _ _) ?_ ?_ ?_ rfl rfl⟩
      · rw [drop_take_len, hm, Int.toNat_natCast, Int.toNat_natCast, Nat.min_eq_left (by omega)]
      · rw [hm, Int.toNat_natCast]; rfl
      · rw [hm, Int.toNat_natCast]; rfl

end Go.Num

/- Queue: QueueForgets: the runs. -/
import Derived.Test.YtglemaieddgjcaaQ8
namespace Go.Num
open Go.Abs Go.Proofs Go.Shelf

/-! Same -/

noncomputable def gamSa : Gam D0 := [(21, .fn (sameD D0))]
theorem gamSa_ok : GamOK Try.prog D0 gamSa := gam_cons (same_ok D0) gam_nil
theorem sa_run_r (a b c d : Int) (l m : List Int) : runF Try.prog D0 gamSa 100 Try.f15 [evP a b l, evP c d m] [.is true, .is true, .is true] =
    some ((Go.Abs.AV.v (Go.Abs.A0.one (Go.Abs.Part.bool Bool.true Bool.true))), [((a == c) = Bool.true), ((b == d) = Bool.true), ((decide (l = m)) = Bool.true), ((List.length l) ≤ (9223372036854775807 : Nat)), ((List.length m) ≤ (9223372036854775807 : Nat))]) := by kernel_rfl
theorem sa_run (a b c d : Int) (l m : List Int)
    (h1 : ((a == c) = Bool.true))
    (h2 : ((b == d) = Bool.true))
    (h3 : ((decide (l = m)) = Bool.true))
    (h4 : ((List.length l) ≤ (9223372036854775807 : Nat)))
    (h5 : ((List.length m) ≤ (9223372036854775807 : Nat))) :
    ∃ ps, runF Try.prog D0 gamSa 100 Try.f15 [evP a b l, evP c d m] [.is true, .is true, .is true] = some ((Go.Abs.AV.v (Go.Abs.A0.one (Go.Abs.Part.bool Bool.true Bool.true))), ps) ∧ AllQ ps := ⟨_, sa_run_r a b c d l m, AllP.all ⟨h1, h2, h3, h4, h5⟩⟩

def saQ : FnD D0
  | [.agg p, .agg q] => match p, q with
    | [.int .i64 _ a, .int .i64 _ b, x], [.int .i64 _ c, .int .i64 _ d, y] => match wdOf x, wdOf y with
      | some l, some m => some (.v (.one (.bool true true)), [a = c, b = d, l = m, l.length ≤ 9223372036854775807])
      | _, _ => none
    | _, _ => none
  | _ => none

theorem wdOf_rel {E : Env} {x : Part D0.τ} {l : List Int} (h : wdOf x = some l) {cs : List Value} (hx : PartRel D0 E x cs) (hE : ∃ w, E = cenv w) : PartRel D0 E (.words .u8 l) cs := by
  unfold wdOf at h
  split at h
  · cases h; exact hx
  · cases h
    have hx' : cs = [Value.slice none 0 0] := hx
    obtain ⟨w, rfl⟩ := hE
    exact ⟨_, hx', _, _, Or.inl ⟨rfl, rfl⟩, none, 0, rfl, Nat.le_refl _, Nat.zero_le _, fun _ => rfl, fun i hi => by cases hi⟩
  · cases h

theorem sa_ok : FnOK Try.prog D0 15 saQ := by
  refine fnOK_of gamSa_ok mixed Try.func15 (enters_of Try.func15 (by kernel_rfl) rfl) ?_
  intro xs r ps h hps
  unfold saQ at h
  split at h
  · split at h
    · rename_i s a t b x u c v d y
      split at h
      · rename_i l m hl hm
        simp only [Option.some.injEq, Prod.mk.injEq] at h
        obtain ⟨rfl, rfl⟩ := h
        have h1 : a = c := hps (a = c) (by simp)
        have h2 : b = d := hps (b = d) (by simp)
        have h3 : l = m := hps (l = m) (by simp)
        have h4 : l.length ≤ 9223372036854775807 := hps (l.length ≤ 9223372036854775807) (by simp)
        subst h1; subst h2; subst h3
        obtain ⟨ps, e1, e2⟩ := sa_run a b a b l l (beq_self_eq_true _) (beq_self_eq_true _) (decide_eq_true rfl) h4 h4
        refine ⟨_, 100, _, _, _, fun w vs h => args2 (fun v hv => ?_) (fun v hv => ?_) h, e1, e2, fun E v hv => hv⟩
        · obtain ⟨cs, rfl, c1, c2, rfl, q1, c3, c4, rfl, q2, c5, c6, rfl, q3, q4⟩ := hv
          exact ⟨_, rfl, c1, _, rfl, q1, c3, _, rfl, q2, c5, _, rfl, wdOf_rel hl q3 ⟨w, rfl⟩, q4⟩
        · obtain ⟨cs, rfl, c1, c2, rfl, q1, c3, c4, rfl, q2, c5, c6, rfl, q3, q4⟩ := hv
          exact ⟨_, rfl, c1, _, rfl, q1, c3, _, rfl, q2, c5, _, rfl, wdOf_rel hm q3 ⟨w, rfl⟩, q4⟩
      · cases h
    · cases h
  · cases h

/-! Put that puts nothing -/

theorem put_noless_r (ll : List Rec) (n a b e : Int) (d : List Int) : runO Try.prog D0 gamP 100 Try.f9 (quB ll n, [.one (.ref 0 0), evP a b d]) [.is true] (.v (.one (.int .i64 false e))) (quB ll n) =
    some [((decide (a < (0 : Int))) = Bool.true), ((1 : Int) = e), (n = n), (ll = ll)] := by kernel_rfl
theorem put_noless (ll : List Rec) (n a b e : Int) (d : List Int)
    (h1 : ((decide (a < (0 : Int))) = Bool.true))
    (h2 : ((1 : Int) = e)) :
    ∃ ps, runO Try.prog D0 gamP 100 Try.f9 (quB ll n, [.one (.ref 0 0), evP a b d]) [.is true] (.v (.one (.int .i64 false e))) (quB ll n) = some ps ∧ AllQ ps := ⟨_, put_noless_r ll n a b e d, AllP.all ⟨h1, h2, rfl, rfl⟩⟩

theorem put_nomore_r (ll : List Rec) (n a b e : Int) (d : List Int) : runO Try.prog D0 gamP 100 Try.f9 (quB ll n, [.one (.ref 0 0), evP a b d]) [.is false, .is true] (.v (.one (.int .i64 false e))) (quB ll n) =
    some [((decide (a < (0 : Int))) = Bool.false), ((decide (a > (1099511627776 : Int))) = Bool.true), ((1 : Int) = e), (n = n), (ll = ll)] := by kernel_rfl
theorem put_nomore (ll : List Rec) (n a b e : Int) (d : List Int)
    (h1 : ((decide (a < (0 : Int))) = Bool.false))
    (h2 : ((decide (a > (1099511627776 : Int))) = Bool.true))
    (h3 : ((1 : Int) = e)) :
    ∃ ps, runO Try.prog D0 gamP 100 Try.f9 (quB ll n, [.one (.ref 0 0), evP a b d]) [.is false, .is true] (.v (.one (.int .i64 false e))) (quB ll n) = some ps ∧ AllQ ps := ⟨_, put_nomore_r ll n a b e d, AllP.all ⟨h1, h2, h3, rfl, rfl⟩⟩

theorem put_nofull_r (ll : List Rec) (n a b e : Int) (d : List Int) : runO Try.prog D0 gamP 100 Try.f9 (quB ll n, [.one (.ref 0 0), evP a b d]) [.is false, .is false, .is true] (.v (.one (.int .i64 false e))) (quB ll n) =
    some [((decide (a < (0 : Int))) = Bool.false), ((decide (a > (1099511627776 : Int))) = Bool.false), ((decide ((((List.length ll) : Nat) : Int) ≥ (4096 : Int))) = Bool.true), ((42 : Int) = e), (n = n), (ll = ll)] := by kernel_rfl
theorem put_nofull (ll : List Rec) (n a b e : Int) (d : List Int)
    (h1 : ((decide (a < (0 : Int))) = Bool.false))
    (h2 : ((decide (a > (1099511627776 : Int))) = Bool.false))
    (h3 : ((decide ((((List.length ll) : Nat) : Int) ≥ (4096 : Int))) = Bool.true))
    (h4 : ((42 : Int) = e)) :
    ∃ ps, runO Try.prog D0 gamP 100 Try.f9 (quB ll n, [.one (.ref 0 0), evP a b d]) [.is false, .is false, .is true] (.v (.one (.int .i64 false e))) (quB ll n) = some ps ∧ AllQ ps := ⟨_, put_nofull_r ll n a b e d, AllP.all ⟨h1, h2, h3, h4, rfl, rfl⟩⟩

def ptErr (a : Int) (n : Nat) : Int := if 0 ≤ a ∧ a ≤ 1099511627776 then 42 else 1
def ptNo (t : List Rec × Int × Int × Int × List Int) : Option (AV D0.τ × List (BoxSt D0.τ) × List Prop) :=
  some (.v (.one (.int .i64 false (ptErr t.2.2.1 t.1.length))), quB t.1 t.2.1, [¬ ((0 ≤ t.2.2.1 ∧ t.2.2.1 ≤ 1099511627776) ∧ t.1.length < 4096)])
noncomputable def putNoQ := mkF D0 Try.f9.ntmps ptRd ptPre ptNo
noncomputable def putNo3Q := mkF D0 Try.f9.ntmps pt3Rd ptPre ptNo

theorem putNo_run (t : List Rec × Int × Int × Int × List Int) (r' : AV D0.τ) (bs' : List (BoxSt D0.τ)) (ps : List Prop) (h : ptNo t = some (r', bs', ps)) (hps : AllQ ps) : ∃ fuel ds qs, runO Try.prog D0 gamP fuel Try.f9 (ptPre t) ds r' bs' = some qs ∧ AllQ qs := by
  obtain ⟨ll, n, a, b, d⟩ := t
  simp only [ptNo, Option.some.injEq, Prod.mk.injEq] at h
  obtain ⟨rfl, rfl, rfl⟩ := h
  have h1 : ¬ ((0 ≤ a ∧ a ≤ 1099511627776) ∧ ll.length < 4096) := hps (¬ ((0 ≤ a ∧ a ≤ 1099511627776) ∧ ll.length < 4096)) (by simp)
  by_cases h0 : 0 ≤ a ∧ a ≤ 1099511627776
  · exact ⟨_, _, put_nofull ll n a b _ d (decide_eq_false (by omega)) (decide_eq_false (by omega)) (decide_eq_true (by omega)) (by unfold ptErr; rw [if_pos h0])⟩
  · by_cases h2 : a < 0
    · exact ⟨_, _, put_noless ll n a b _ d (decide_eq_true h2) (by unfold ptErr; rw [if_neg h0])⟩
    · exact ⟨_, _, put_nomore ll n a b _ d (decide_eq_false h2) (decide_eq_true (by omega)) (by unfold ptErr; rw [if_neg h0])⟩

theorem putNo_ok : OpOK Try.prog D0 9 putNoQ :=
  opOK_mk gamP_ok mixed Try.func9 (enters_of Try.func9 (by kernel_rfl) rfl) putNo_run
theorem putNo3_ok : OpOK Try.prog D0 9 putNo3Q :=
  opOK_mk gamP_ok mixed Try.func9 (enters_of Try.func9 (by kernel_rfl) rfl) putNo_run

/-! The law's rounds -/

noncomputable def gamT (put due forg : Op4) : Gam D0 := [(7, .fn headQ), (8, .op [] newQ), (9, .op [true, false] put), (10, .op [true, false] due), (11, .op [true] qlenQ), (17, .op [true, false] forg), (15, .fn saQ)]
theorem gamT_ok {put due forg : Op4} (h1 : OpOK Try.prog D0 9 put) (h2 : OpOK Try.prog D0 10 due) (h3 : OpOK Try.prog D0 17 forg) : GamOK Try.prog D0 (gamT put due forg) := gam_cons head_ok (gam_op new_ok (gam_op h1 (gam_op h2 (gam_op qlen_ok (gam_op h3 (gam_cons sa_ok gam_nil))))))

def twB (a : List Rec) (s : Int) (b : List Rec) (t : Int) : List (Nat × BoxSt D0.τ) := [(0, .fixed 55 (quP s)), (1, rowQ a), (2, .fixed 55 [.own 3, .ints .u64 [t]]), (3, rowQ b)]
def fgSn (ats whos : List Int) (who : Int) (a : List Rec) (s : Int) (b : List Rec) (t k : Int) : Sn D0.τ where
  slots := [(0, .v (.one (.words .i64 ats))), (1, .v (.one (.words .i64 whos))), (2, .v (.one (.int .i64 false who))), (7, .v (.one (.ref 0 0))), (8, .v (.one (.ref 2 0))), (21, .v (.one (.words .i64 ats))), (22, .v (.one (.int .i64 false ats.length))), (23, .v (.one (.int .i64 false k)))]
  boxes := twB a s b t
  nt := 85
def fgEd (who : Int) (a : List Rec) (s : Int) (b : List Rec) (t : Int) : Sn D0.τ where
  slots := [(2, .v (.one (.int .i64 false who))), (7, .v (.one (.ref 0 0))), (8, .v (.one (.ref 2 0)))]
  boxes := twB a s b t
  nt := 85

theorem fg_ok_w_r (ats whos : List Int) (who : Int) (a a' : List Rec) (s s' : Int) (b b' : List Rec) (t t' k k' : Int) : stepPs Try.prog D0 (gamT (orF put3Q putQ) dueNoQ forgetNoQ) 100 (bodyN Try.f6 0) 100 (fgSn ats whos who a s b t k).st [.is true, .is true, .is true] .normal (fgSn ats whos who a' s' b' t' k') =
    some [((decide (k < (((List.length ats) : Nat) : Int))) = Bool.true), ((0 : Int) ≤ k), (k < (((List.length ats) : Nat) : Int)), ((decide (k < (((List.length whos) : Nat) : Int))) = Bool.true), ((0 : Int) ≤ k), (k < (((List.length whos) : Nat) : Int)), ((List.getD ats (Int.toNat k) (0 : Int)) = (List.getD ats (Int.toNat k) (0 : Int))), ((List.getD whos (Int.toNat k) (0 : Int)) = (List.getD whos (Int.toNat k) (0 : Int))), (((Go.IntKind.wrap Go.IntKind.u8 k) :: ((Go.IntKind.wrap Go.IntKind.u8 (Int.fdiv k ((2 : Int) ^ (min (8 : Nat) (64 : Nat))))) :: ([] : List (Int)))) = ((Go.IntKind.wrap Go.IntKind.u8 k) :: ((Go.IntKind.wrap Go.IntKind.u8 (Int.fdiv k ((2 : Int) ^ (min (8 : Nat) (64 : Nat))))) :: ([] : List (Int))))), (s = s), (a = a), ((0 : Int) ≤ (List.getD ats (Int.toNat k) (0 : Int))), ((List.getD ats (Int.toNat k) (0 : Int)) ≤ (1099511627776 : Int)), ((List.length a) < (4096 : Nat)), ((2 : Nat) ≤ (140737488355328 : Nat)), (Go.Num.EnAll a), (((List.getD whos (Int.toNat k) (0 : Int)) != who) = Bool.true), ((List.getD ats (Int.toNat k) (0 : Int)) = (List.getD ats (Int.toNat k) (0 : Int))), ((List.getD whos (Int.toNat k) (0 : Int)) = (List.getD whos (Int.toNat k) (0 : Int))), (((Go.IntKind.wrap Go.IntKind.u8 k) :: ((Go.IntKind.wrap Go.IntKind.u8 (Int.fdiv k ((2 : Int) ^ (min (8 : Nat) (64 : Nat))))) :: ([] : List (Int)))) = ((Go.IntKind.wrap Go.IntKind.u8 k) :: ((Go.IntKind.wrap Go.IntKind.u8 (Int.fdiv k ((2 : Int) ^ (min (8 : Nat) (64 : Nat))))) :: ([] : List (Int))))), (t = t), (b = b), ((0 : Int) ≤ (List.getD ats (Int.toNat k) (0 : Int))), ((List.getD ats (Int.toNat k) (0 : Int)) ≤ (1099511627776 : Int)), ((List.length b) < (4096 : Nat)), ((2 : Nat) ≤ (140737488355328 : Nat)), (Go.Num.EnAll b), (Go.Abs.InI64 (k + (1 : Int))), (ats = ats), (whos = whos), (who = who), (ats = ats), ((((List.length ats) : Nat) : Int) = (((List.length ats) : Nat) : Int)), ((k + (1 : Int)) = k'), ((Go.IntKind.wrap Go.IntKind.u64 (s + (1 : Int))) = s'), ((Go.Num.pushL a (Go.Num.mkE (List.getD ats (Int.toNat k) (0 : Int)) (List.getD whos (Int.toNat k) (0 : Int)) ((Go.IntKind.wrap Go.IntKind.u8 k) :: ((Go.IntKind.wrap Go.IntKind.u8 (Int.fdiv k ((2 : Int) ^ (min (8 : Nat) (64 : Nat))))) :: ([] : List (Int)))) s)) = a'), (((Go.IntKind.wrap Go.IntKind.u64 (t + (1 : Int))) :: ([] : List (Int))) = (t' :: ([] : List (Int)))), ((Go.Num.pushL b (Go.Num.mkE (List.getD ats (Int.toNat k) (0 : Int)) (List.getD whos (Int.toNat k) (0 : Int)) ((Go.IntKind.wrap Go.IntKind.u8 k) :: ((Go.IntKind.wrap Go.IntKind.u8 (Int.fdiv k ((2 : Int) ^ (min (8 : Nat) (64 : Nat))))) :: ([] : List (Int)))) t)) = b')] := by kernel_rfl
theorem fg_ok_w (ats whos : List Int) (who : Int) (a a' : List Rec) (s s' : Int) (b b' : List Rec) (t t' k k' : Int)
    (h1 : ((decide (k < (((List.length ats) : Nat) : Int))) = Bool.true))
    (h2 : ((0 : Int) ≤ k))
    (h3 : (k < (((List.length ats) : Nat) : Int)))
    (h4 : ((decide (k < (((List.length whos) : Nat) : Int))) = Bool.true))
    (h5 : (k < (((List.length whos) : Nat) : Int)))
    (h6 : ((0 : Int) ≤ (List.getD ats (Int.toNat k) (0 : Int))))
    (h7 : ((List.getD ats (Int.toNat k) (0 : Int)) ≤ (1099511627776 : Int)))
    (h8 : ((List.length a) < (4096 : Nat)))
    (h9 : ((2 : Nat) ≤ (140737488355328 : Nat)))
    (h10 : (Go.Num.EnAll a))
    (h11 : (((List.getD whos (Int.toNat k) (0 : Int)) != who) = Bool.true))
    (h12 : ((List.length b) < (4096 : Nat)))
    (h13 : (Go.Num.EnAll b))
    (h14 : (Go.Abs.InI64 (k + (1 : Int))))
    (h15 : ((k + (1 : Int)) = k'))
    (h16 : ((Go.IntKind.wrap Go.IntKind.u64 (s + (1 : Int))) = s'))
    (h17 : ((Go.Num.pushL a (Go.Num.mkE (List.getD ats (Int.toNat k) (0 : Int)) (List.getD whos (Int.toNat k) (0 : Int)) ((Go.IntKind.wrap Go.IntKind.u8 k) :: ((Go.IntKind.wrap Go.IntKind.u8 (Int.fdiv k ((2 : Int) ^ (min (8 : Nat) (64 : Nat))))) :: ([] : List (Int)))) s)) = a'))
    (h18 : (((Go.IntKind.wrap Go.IntKind.u64 (t + (1 : Int))) :: ([] : List (Int))) = (t' :: ([] : List (Int)))))
    (h19 : ((Go.Num.pushL b (Go.Num.mkE (List.getD ats (Int.toNat k) (0 : Int)) (List.getD whos (Int.toNat k) (0 : Int)) ((Go.IntKind.wrap Go.IntKind.u8 k) :: ((Go.IntKind.wrap Go.IntKind.u8 (Int.fdiv k ((2 : Int) ^ (min (8 : Nat) (64 : Nat))))) :: ([] : List (Int)))) t)) = b')) :
    ∃ ps, stepPs Try.prog D0 (gamT (orF put3Q putQ) dueNoQ forgetNoQ) 100 (bodyN Try.f6 0) 100 (fgSn ats whos who a s b t k).st [.is true, .is true, .is true] .normal (fgSn ats whos who a' s' b' t' k') = some ps ∧ AllQ ps := ⟨_, fg_ok_w_r ats whos who a a' s s' b b' t t' k k', AllP.all ⟨h1, h2, h3, h4, h2, h5, rfl, rfl, rfl, rfl, rfl, h6, h7, h8, h9, h10, h11, rfl, rfl, rfl, rfl, rfl, h6, h7, h12, h9, h13, h14, rfl, rfl, rfl, rfl, rfl, h15, h16, h17, h18, h19⟩⟩

theorem fg_no_w_r (ats whos : List Int) (who : Int) (a a' : List Rec) (s s' : Int) (b b' : List Rec) (t t' k k' : Int) : stepPs Try.prog D0 (gamT (orF putNo3Q putNoQ) dueNoQ forgetNoQ) 100 (bodyN Try.f6 0) 100 (fgSn ats whos who a s b t k).st [.is true, .is true, .is true] .normal (fgSn ats whos who a' s' b' t' k') =
    some [((decide (k < (((List.length ats) : Nat) : Int))) = Bool.true), ((0 : Int) ≤ k), (k < (((List.length ats) : Nat) : Int)), ((decide (k < (((List.length whos) : Nat) : Int))) = Bool.true), ((0 : Int) ≤ k), (k < (((List.length whos) : Nat) : Int)), ((List.getD ats (Int.toNat k) (0 : Int)) = (List.getD ats (Int.toNat k) (0 : Int))), ((List.getD whos (Int.toNat k) (0 : Int)) = (List.getD whos (Int.toNat k) (0 : Int))), (((Go.IntKind.wrap Go.IntKind.u8 k) :: ((Go.IntKind.wrap Go.IntKind.u8 (Int.fdiv k ((2 : Int) ^ (min (8 : Nat) (64 : Nat))))) :: ([] : List (Int)))) = ((Go.IntKind.wrap Go.IntKind.u8 k) :: ((Go.IntKind.wrap Go.IntKind.u8 (Int.fdiv k ((2 : Int) ^ (min (8 : Nat) (64 : Nat))))) :: ([] : List (Int))))), (s = s), (a = a), (¬ ((((0 : Int) ≤ (List.getD ats (Int.toNat k) (0 : Int))) ∧ ((List.getD ats (Int.toNat k) (0 : Int)) ≤ (1099511627776 : Int))) ∧ ((List.length a) < (4096 : Nat)))), (((List.getD whos (Int.toNat k) (0 : Int)) != who) = Bool.true), ((List.getD ats (Int.toNat k) (0 : Int)) = (List.getD ats (Int.toNat k) (0 : Int))), ((List.getD whos (Int.toNat k) (0 : Int)) = (List.getD whos (Int.toNat k) (0 : Int))), (((Go.IntKind.wrap Go.IntKind.u8 k) :: ((Go.IntKind.wrap Go.IntKind.u8 (Int.fdiv k ((2 : Int) ^ (min (8 : Nat) (64 : Nat))))) :: ([] : List (Int)))) = ((Go.IntKind.wrap Go.IntKind.u8 k) :: ((Go.IntKind.wrap Go.IntKind.u8 (Int.fdiv k ((2 : Int) ^ (min (8 : Nat) (64 : Nat))))) :: ([] : List (Int))))), (t = t), (b = b), (¬ ((((0 : Int) ≤ (List.getD ats (Int.toNat k) (0 : Int))) ∧ ((List.getD ats (Int.toNat k) (0 : Int)) ≤ (1099511627776 : Int))) ∧ ((List.length b) < (4096 : Nat)))), (Go.Abs.InI64 (k + (1 : Int))), (ats = ats), (whos = whos), (who = who), (ats = ats), ((((List.length ats) : Nat) : Int) = (((List.length ats) : Nat) : Int)), ((k + (1 : Int)) = k'), (s = s'), (a = a'), ((t :: ([] : List (Int))) = (t' :: ([] : List (Int)))), (b = b')] := by kernel_rfl
theorem fg_no_w (ats whos : List Int) (who : Int) (a a' : List Rec) (s s' : Int) (b b' : List Rec) (t t' k k' : Int)
    (h1 : ((decide (k < (((List.length ats) : Nat) : Int))) = Bool.true))
    (h2 : ((0 : Int) ≤ k))
    (h3 : (k < (((List.length ats) : Nat) : Int)))
    (h4 : ((decide (k < (((List.length whos) : Nat) : Int))) = Bool.true))
    (h5 : (k < (((List.length whos) : Nat) : Int)))
    (h6 : (¬ ((((0 : Int) ≤ (List.getD ats (Int.toNat k) (0 : Int))) ∧ ((List.getD ats (Int.toNat k) (0 : Int)) ≤ (1099511627776 : Int))) ∧ ((List.length a) < (4096 : Nat)))))
    (h7 : (((List.getD whos (Int.toNat k) (0 : Int)) != who) = Bool.true))
    (h8 : (¬ ((((0 : Int) ≤ (List.getD ats (Int.toNat k) (0 : Int))) ∧ ((List.getD ats (Int.toNat k) (0 : Int)) ≤ (1099511627776 : Int))) ∧ ((List.length b) < (4096 : Nat)))))
    (h9 : (Go.Abs.InI64 (k + (1 : Int))))
    (h10 : ((k + (1 : Int)) = k'))
    (h11 : (s = s'))
    (h12 : (a = a'))
    (h13 : ((t :: ([] : List (Int))) = (t' :: ([] : List (Int)))))
    (h14 : (b = b')) :
    ∃ ps, stepPs Try.prog D0 (gamT (orF putNo3Q putNoQ) dueNoQ forgetNoQ) 100 (bodyN Try.f6 0) 100 (fgSn ats whos who a s b t k).st [.is true, .is true, .is true] .normal (fgSn ats whos who a' s' b' t' k') = some ps ∧ AllQ ps := ⟨_, fg_no_w_r ats whos who a a' s s' b b' t t' k k', AllP.all ⟨h1, h2, h3, h4, h2, h5, rfl, rfl, rfl, rfl, rfl, h6, h7, rfl, rfl, rfl, rfl, rfl, h8, h9, rfl, rfl, rfl, rfl, rfl, h10, h11, h12, h13, h14⟩⟩

theorem fg_nok_w_r (ats whos : List Int) (who : Int) (a a' : List Rec) (s s' : Int) (b b' : List Rec) (t t' k k' : Int) : stepPs Try.prog D0 (gamT (orF put3Q putNoQ) dueNoQ forgetNoQ) 100 (bodyN Try.f6 0) 100 (fgSn ats whos who a s b t k).st [.is true, .is true, .is true] .normal (fgSn ats whos who a' s' b' t' k') =
    some [((decide (k < (((List.length ats) : Nat) : Int))) = Bool.true), ((0 : Int) ≤ k), (k < (((List.length ats) : Nat) : Int)), ((decide (k < (((List.length whos) : Nat) : Int))) = Bool.true), ((0 : Int) ≤ k), (k < (((List.length whos) : Nat) : Int)), ((List.getD ats (Int.toNat k) (0 : Int)) = (List.getD ats (Int.toNat k) (0 : Int))), ((List.getD whos (Int.toNat k) (0 : Int)) = (List.getD whos (Int.toNat k) (0 : Int))), (((Go.IntKind.wrap Go.IntKind.u8 k) :: ((Go.IntKind.wrap Go.IntKind.u8 (Int.fdiv k ((2 : Int) ^ (min (8 : Nat) (64 : Nat))))) :: ([] : List (Int)))) = ((Go.IntKind.wrap Go.IntKind.u8 k) :: ((Go.IntKind.wrap Go.IntKind.u8 (Int.fdiv k ((2 : Int) ^ (min (8 : Nat) (64 : Nat))))) :: ([] : List (Int))))), (s = s), (a = a), (¬ ((((0 : Int) ≤ (List.getD ats (Int.toNat k) (0 : Int))) ∧ ((List.getD ats (Int.toNat k) (0 : Int)) ≤ (1099511627776 : Int))) ∧ ((List.length a) < (4096 : Nat)))), (((List.getD whos (Int.toNat k) (0 : Int)) != who) = Bool.true), ((List.getD ats (Int.toNat k) (0 : Int)) = (List.getD ats (Int.toNat k) (0 : Int))), ((List.getD whos (Int.toNat k) (0 : Int)) = (List.getD whos (Int.toNat k) (0 : Int))), (((Go.IntKind.wrap Go.IntKind.u8 k) :: ((Go.IntKind.wrap Go.IntKind.u8 (Int.fdiv k ((2 : Int) ^ (min (8 : Nat) (64 : Nat))))) :: ([] : List (Int)))) = ((Go.IntKind.wrap Go.IntKind.u8 k) :: ((Go.IntKind.wrap Go.IntKind.u8 (Int.fdiv k ((2 : Int) ^ (min (8 : Nat) (64 : Nat))))) :: ([] : List (Int))))), (t = t), (b = b), ((0 : Int) ≤ (List.getD ats (Int.toNat k) (0 : Int))), ((List.getD ats (Int.toNat k) (0 : Int)) ≤ (1099511627776 : Int)), ((List.length b) < (4096 : Nat)), ((2 : Nat) ≤ (140737488355328 : Nat)), (Go.Num.EnAll b), (Go.Abs.InI64 (k + (1 : Int))), (ats = ats), (whos = whos), (who = who), (ats = ats), ((((List.length ats) : Nat) : Int) = (((List.length ats) : Nat) : Int)), ((k + (1 : Int)) = k'), (s = s'), (a = a'), (((Go.IntKind.wrap Go.IntKind.u64 (t + (1 : Int))) :: ([] : List (Int))) = (t' :: ([] : List (Int)))), ((Go.Num.pushL b (Go.Num.mkE (List.getD ats (Int.toNat k) (0 : Int)) (List.getD whos (Int.toNat k) (0 : Int)) ((Go.IntKind.wrap Go.IntKind.u8 k) :: ((Go.IntKind.wrap Go.IntKind.u8 (Int.fdiv k ((2 : Int) ^ (min (8 : Nat) (64 : Nat))))) :: ([] : List (Int)))) t)) = b')] := by kernel_rfl
theorem fg_nok_w (ats whos : List Int) (who : Int) (a a' : List Rec) (s s' : Int) (b b' : List Rec) (t t' k k' : Int)
    (h1 : ((decide (k < (((List.length ats) : Nat) : Int))) = Bool.true))
    (h2 : ((0 : Int) ≤ k))
    (h3 : (k < (((List.length ats) : Nat) : Int)))
    (h4 : ((decide (k < (((List.length whos) : Nat) : Int))) = Bool.true))
    (h5 : (k < (((List.length whos) : Nat) : Int)))
    (h6 : (¬ ((((0 : Int) ≤ (List.getD ats (Int.toNat k) (0 : Int))) ∧ ((List.getD ats (Int.toNat k) (0 : Int)) ≤ (1099511627776 : Int))) ∧ ((List.length a) < (4096 : Nat)))))
    (h7 : (((List.getD whos (Int.toNat k) (0 : Int)) != who) = Bool.true))
    (h8 : ((0 : Int) ≤ (List.getD ats (Int.toNat k) (0 : Int))))
    (h9 : ((List.getD ats (Int.toNat k) (0 : Int)) ≤ (1099511627776 : Int)))
    (h10 : ((List.length b) < (4096 : Nat)))
    (h11 : ((2 : Nat) ≤ (140737488355328 : Nat)))
    (h12 : (Go.Num.EnAll b))
    (h13 : (Go.Abs.InI64 (k + (1 : Int))))
    (h14 : ((k + (1 : Int)) = k'))
    (h15 : (s = s'))
    (h16 : (a = a'))
    (h17 : (((Go.IntKind.wrap Go.IntKind.u64 (t + (1 : Int))) :: ([] : List (Int))) = (t' :: ([] : List (Int)))))
    (h18 : ((Go.Num.pushL b (Go.Num.mkE (List.getD ats (Int.toNat k) (0 : Int)) (List.getD whos (Int.toNat k) (0 : Int)) ((Go.IntKind.wrap Go.IntKind.u8 k) :: ((Go.IntKind.wrap Go.IntKind.u8 (Int.fdiv k ((2 : Int) ^ (min (8 : Nat) (64 : Nat))))) :: ([] : List (Int)))) t)) = b')) :
    ∃ ps, stepPs Try.prog D0 (gamT (orF put3Q putNoQ) dueNoQ forgetNoQ) 100 (bodyN Try.f6 0) 100 (fgSn ats whos who a s b t k).st [.is true, .is true, .is true] .normal (fgSn ats whos who a' s' b' t' k') = some ps ∧ AllQ ps := ⟨_, fg_nok_w_r ats whos who a a' s s' b b' t t' k k', AllP.all ⟨h1, h2, h3, h4, h2, h5, rfl, rfl, rfl, rfl, rfl, h6, h7, rfl, rfl, rfl, rfl, rfl, h8, h9, h10, h11, h12, h13, rfl, rfl, rfl, rfl, rfl, h14, h15, h16, h17, h18⟩⟩

theorem fg_sok_w_r (ats whos : List Int) (who : Int) (a a' : List Rec) (s s' : Int) (b b' : List Rec) (t t' k k' : Int) : stepPs Try.prog D0 (gamT putQ dueNoQ forgetNoQ) 100 (bodyN Try.f6 0) 100 (fgSn ats whos who a s b t k).st [.is true, .is true, .is false] .normal (fgSn ats whos who a' s' b' t' k') =
    some [((decide (k < (((List.length ats) : Nat) : Int))) = Bool.true), ((0 : Int) ≤ k), (k < (((List.length ats) : Nat) : Int)), ((decide (k < (((List.length whos) : Nat) : Int))) = Bool.true), ((0 : Int) ≤ k), (k < (((List.length whos) : Nat) : Int)), ((List.getD ats (Int.toNat k) (0 : Int)) = (List.getD ats (Int.toNat k) (0 : Int))), ((List.getD whos (Int.toNat k) (0 : Int)) = (List.getD whos (Int.toNat k) (0 : Int))), (((Go.IntKind.wrap Go.IntKind.u8 k) :: ((Go.IntKind.wrap Go.IntKind.u8 (Int.fdiv k ((2 : Int) ^ (min (8 : Nat) (64 : Nat))))) :: ([] : List (Int)))) = ((Go.IntKind.wrap Go.IntKind.u8 k) :: ((Go.IntKind.wrap Go.IntKind.u8 (Int.fdiv k ((2 : Int) ^ (min (8 : Nat) (64 : Nat))))) :: ([] : List (Int))))), (s = s), (a = a), ((0 : Int) ≤ (List.getD ats (Int.toNat k) (0 : Int))), ((List.getD ats (Int.toNat k) (0 : Int)) ≤ (1099511627776 : Int)), ((List.length a) < (4096 : Nat)), ((2 : Nat) ≤ (140737488355328 : Nat)), (Go.Num.EnAll a), (((List.getD whos (Int.toNat k) (0 : Int)) != who) = Bool.false), (Go.Abs.InI64 (k + (1 : Int))), (ats = ats), (whos = whos), (who = who), (ats = ats), ((((List.length ats) : Nat) : Int) = (((List.length ats) : Nat) : Int)), ((k + (1 : Int)) = k'), ((Go.IntKind.wrap Go.IntKind.u64 (s + (1 : Int))) = s'), ((Go.Num.pushL a (Go.Num.mkE (List.getD ats (Int.toNat k) (0 : Int)) (List.getD whos (Int.toNat k) (0 : Int)) ((Go.IntKind.wrap Go.IntKind.u8 k) :: ((Go.IntKind.wrap Go.IntKind.u8 (Int.fdiv k ((2 : Int) ^ (min (8 : Nat) (64 : Nat))))) :: ([] : List (Int)))) s)) = a'), ((t :: ([] : List (Int))) = (t' :: ([] : List (Int)))), (b = b')] := by kernel_rfl
theorem fg_sok_w (ats whos : List Int) (who : Int) (a a' : List Rec) (s s' : Int) (b b' : List Rec) (t t' k k' : Int)
    (h1 : ((decide (k < (((List.length ats) : Nat) : Int))) = Bool.true))
    (h2 : ((0 : Int) ≤ k))
    (h3 : (k < (((List.length ats) : Nat) : Int)))
    (h4 : ((decide (k < (((List.length whos) : Nat) : Int))) = Bool.true))
    (h5 : (k < (((List.length whos) : Nat) : Int)))
    (h6 : ((0 : Int) ≤ (List.getD ats (Int.toNat k) (0 : Int))))
    (h7 : ((List.getD ats (Int.toNat k) (0 : Int)) ≤ (1099511627776 : Int)))
    (h8 : ((List.length a) < (4096 : Nat)))
    (h9 : ((2 : Nat) ≤ (140737488355328 : Nat)))
    (h10 : (Go.Num.EnAll a))
    (h11 : (((List.getD whos (Int.toNat k) (0 : Int)) != who) = Bool.false))
    (h12 : (Go.Abs.InI64 (k + (1 : Int))))
    (h13 : ((k + (1 : Int)) = k'))
    (h14 : ((Go.IntKind.wrap Go.IntKind.u64 (s + (1 : Int))) = s'))
    (h15 : ((Go.Num.pushL a (Go.Num.mkE (List.getD ats (Int.toNat k) (0 : Int)) (List.getD whos (Int.toNat k) (0 : Int)) ((Go.IntKind.wrap Go.IntKind.u8 k) :: ((Go.IntKind.wrap Go.IntKind.u8 (Int.fdiv k ((2 : Int) ^ (min (8 : Nat) (64 : Nat))))) :: ([] : List (Int)))) s)) = a'))
    (h16 : ((t :: ([] : List (Int))) = (t' :: ([] : List (Int)))))
    (h17 : (b = b')) :
    ∃ ps, stepPs Try.prog D0 (gamT putQ dueNoQ forgetNoQ) 100 (bodyN Try.f6 0) 100 (fgSn ats whos who a s b t k).st [.is true, .is true, .is false] .normal (fgSn ats whos who a' s' b' t' k') = some ps ∧ AllQ ps := ⟨_, fg_sok_w_r ats whos who a a' s s' b b' t t' k k', AllP.all ⟨h1, h2, h3, h4, h2, h5, rfl, rfl, rfl, rfl, rfl, h6, h7, h8, h9, h10, h11, h12, rfl, rfl, rfl, rfl, rfl, h13, h14, h15, h16, h17⟩⟩

theorem fg_sno_w_r (ats whos : List Int) (who : Int) (a a' : List Rec) (s s' : Int) (b b' : List Rec) (t t' k k' : Int) : stepPs Try.prog D0 (gamT putNoQ dueNoQ forgetNoQ) 100 (bodyN Try.f6 0) 100 (fgSn ats whos who a s b t k).st [.is true, .is true, .is false] .normal (fgSn ats whos who a' s' b' t' k') =
    some [((decide (k < (((List.length ats) : Nat) : Int))) = Bool.true), ((0 : Int) ≤ k), (k < (((List.length ats) : Nat) : Int)), ((decide (k < (((List.length whos) : Nat) : Int))) = Bool.true), ((0 : Int) ≤ k), (k < (((List.length whos) : Nat) : Int)), ((List.getD ats (Int.toNat k) (0 : Int)) = (List.getD ats (Int.toNat k) (0 : Int))), ((List.getD whos (Int.toNat k) (0 : Int)) = (List.getD whos (Int.toNat k) (0 : Int))), (((Go.IntKind.wrap Go.IntKind.u8 k) :: ((Go.IntKind.wrap Go.IntKind.u8 (Int.fdiv k ((2 : Int) ^ (min (8 : Nat) (64 : Nat))))) :: ([] : List (Int)))) = ((Go.IntKind.wrap Go.IntKind.u8 k) :: ((Go.IntKind.wrap Go.IntKind.u8 (Int.fdiv k ((2 : Int) ^ (min (8 : Nat) (64 : Nat))))) :: ([] : List (Int))))), (s = s), (a = a), (¬ ((((0 : Int) ≤ (List.getD ats (Int.toNat k) (0 : Int))) ∧ ((List.getD ats (Int.toNat k) (0 : Int)) ≤ (1099511627776 : Int))) ∧ ((List.length a) < (4096 : Nat)))), (((List.getD whos (Int.toNat k) (0 : Int)) != who) = Bool.false), (Go.Abs.InI64 (k + (1 : Int))), (ats = ats), (whos = whos), (who = who), (ats = ats), ((((List.length ats) : Nat) : Int) = (((List.length ats) : Nat) : Int)), ((k + (1 : Int)) = k'), (s = s'), (a = a'), ((t :: ([] : List (Int))) = (t' :: ([] : List (Int)))), (b = b')] := by kernel_rfl
theorem fg_sno_w (ats whos : List Int) (who : Int) (a a' : List Rec) (s s' : Int) (b b' : List Rec) (t t' k k' : Int)
    (h1 : ((decide (k < (((List.length ats) : Nat) : Int))) = Bool.true))
    (h2 : ((0 : Int) ≤ k))
    (h3 : (k < (((List.length ats) : Nat) : Int)))
    (h4 : ((decide (k < (((List.length whos) : Nat) : Int))) = Bool.true))
    (h5 : (k < (((List.length whos) : Nat) : Int)))
    (h6 : (¬ ((((0 : Int) ≤ (List.getD ats (Int.toNat k) (0 : Int))) ∧ ((List.getD ats (Int.toNat k) (0 : Int)) ≤ (1099511627776 : Int))) ∧ ((List.length a) < (4096 : Nat)))))
    (h7 : (((List.getD whos (Int.toNat k) (0 : Int)) != who) = Bool.false))
    (h8 : (Go.Abs.InI64 (k + (1 : Int))))
    (h9 : ((k + (1 : Int)) = k'))
    (h10 : (s = s'))
    (h11 : (a = a'))
    (h12 : ((t :: ([] : List (Int))) = (t' :: ([] : List (Int)))))
    (h13 : (b = b')) :
    ∃ ps, stepPs Try.prog D0 (gamT putNoQ dueNoQ forgetNoQ) 100 (bodyN Try.f6 0) 100 (fgSn ats whos who a s b t k).st [.is true, .is true, .is false] .normal (fgSn ats whos who a' s' b' t' k') = some ps ∧ AllQ ps := ⟨_, fg_sno_w_r ats whos who a a' s s' b b' t t' k k', AllP.all ⟨h1, h2, h3, h4, h2, h5, rfl, rfl, rfl, rfl, rfl, h6, h7, h8, rfl, rfl, rfl, rfl, rfl, h9, h10, h11, h12, h13⟩⟩

theorem fg_ok_z_r (ats whos : List Int) (who : Int) (a a' : List Rec) (s s' : Int) (b b' : List Rec) (t t' k k' : Int) : stepPs Try.prog D0 (gamT (orF put3Q putQ) dueNoQ forgetNoQ) 100 (bodyN Try.f6 0) 100 (fgSn ats whos who a s b t k).st [.is true, .is false, .is true] .normal (fgSn ats whos who a' s' b' t' k') =
    some [((decide (k < (((List.length ats) : Nat) : Int))) = Bool.true), ((0 : Int) ≤ k), (k < (((List.length ats) : Nat) : Int)), ((decide (k < (((List.length whos) : Nat) : Int))) = Bool.false), ((List.getD ats (Int.toNat k) (0 : Int)) = (List.getD ats (Int.toNat k) (0 : Int))), ((0 : Int) = (0 : Int)), (((Go.IntKind.wrap Go.IntKind.u8 k) :: ((Go.IntKind.wrap Go.IntKind.u8 (Int.fdiv k ((2 : Int) ^ (min (8 : Nat) (64 : Nat))))) :: ([] : List (Int)))) = ((Go.IntKind.wrap Go.IntKind.u8 k) :: ((Go.IntKind.wrap Go.IntKind.u8 (Int.fdiv k ((2 : Int) ^ (min (8 : Nat) (64 : Nat))))) :: ([] : List (Int))))), (s = s), (a = a), ((0 : Int) ≤ (List.getD ats (Int.toNat k) (0 : Int))), ((List.getD ats (Int.toNat k) (0 : Int)) ≤ (1099511627776 : Int)), ((List.length a) < (4096 : Nat)), ((2 : Nat) ≤ (140737488355328 : Nat)), (Go.Num.EnAll a), (((0 : Int) != who) = Bool.true), ((List.getD ats (Int.toNat k) (0 : Int)) = (List.getD ats (Int.toNat k) (0 : Int))), ((0 : Int) = (0 : Int)), (((Go.IntKind.wrap Go.IntKind.u8 k) :: ((Go.IntKind.wrap Go.IntKind.u8 (Int.fdiv k ((2 : Int) ^ (min (8 : Nat) (64 : Nat))))) :: ([] : List (Int)))) = ((Go.IntKind.wrap Go.IntKind.u8 k) :: ((Go.IntKind.wrap Go.IntKind.u8 (Int.fdiv k ((2 : Int) ^ (min (8 : Nat) (64 : Nat))))) :: ([] : List (Int))))), (t = t), (b = b), ((0 : Int) ≤ (List.getD ats (Int.toNat k) (0 : Int))), ((List.getD ats (Int.toNat k) (0 : Int)) ≤ (1099511627776 : Int)), ((List.length b) < (4096 : Nat)), ((2 : Nat) ≤ (140737488355328 : Nat)), (Go.Num.EnAll b), (Go.Abs.InI64 (k + (1 : Int))), (ats = ats), (whos = whos), (who = who), (ats = ats), ((((List.length ats) : Nat) : Int) = (((List.length ats) : Nat) : Int)), ((k + (1 : Int)) = k'), ((Go.IntKind.wrap Go.IntKind.u64 (s + (1 : Int))) = s'), ((Go.Num.pushL a (Go.Num.mkE (List.getD ats (Int.toNat k) (0 : Int)) (0 : Int) ((Go.IntKind.wrap Go.IntKind.u8 k) :: ((Go.IntKind.wrap Go.IntKind.u8 (Int.fdiv k ((2 : Int) ^ (min (8 : Nat) (64 : Nat))))) :: ([] : List (Int)))) s)) = a'), (((Go.IntKind.wrap Go.IntKind.u64 (t + (1 : Int))) :: ([] : List (Int))) = (t' :: ([] : List (Int)))), ((Go.Num.pushL b (Go.Num.mkE (List.getD ats (Int.toNat k) (0 : Int)) (0 : Int) ((Go.IntKind.wrap Go.IntKind.u8 k) :: ((Go.IntKind.wrap Go.IntKind.u8 (Int.fdiv k ((2 : Int) ^ (min (8 : Nat) (64 : Nat))))) :: ([] : List (Int)))) t)) = b')] := by kernel_rfl
theorem fg_ok_z (ats whos : List Int) (who : Int) (a a' : List Rec) (s s' : Int) (b b' : List Rec) (t t' k k' : Int)
    (h1 : ((decide (k < (((List.length ats) : Nat) : Int))) = Bool.true))
    (h2 : ((0 : Int) ≤ k))
    (h3 : (k < (((List.length ats) : Nat) : Int)))
    (h4 : ((decide (k < (((List.length whos) : Nat) : Int))) = Bool.false))
    (h5 : ((0 : Int) ≤ (List.getD ats (Int.toNat k) (0 : Int))))
    (h6 : ((List.getD ats (Int.toNat k) (0 : Int)) ≤ (1099511627776 : Int)))
    (h7 : ((List.length a) < (4096 : Nat)))
    (h8 : ((2 : Nat) ≤ (140737488355328 : Nat)))
    (h9 : (Go.Num.EnAll a))
    (h10 : (((0 : Int) != who) = Bool.true))
    (h11 : ((List.length b) < (4096 : Nat)))
    (h12 : (Go.Num.EnAll b))
    (h13 : (Go.Abs.InI64 (k + (1 : Int))))
    (h14 : ((k + (1 : Int)) = k'))
    (h15 : ((Go.IntKind.wrap Go.IntKind.u64 (s + (1 : Int))) = s'))
    (h16 : ((Go.Num.pushL a (Go.Num.mkE (List.getD ats (Int.toNat k) (0 : Int)) (0 : Int) ((Go.IntKind.wrap Go.IntKind.u8 k) :: ((Go.IntKind.wrap Go.IntKind.u8 (Int.fdiv k ((2 : Int) ^ (min (8 : Nat) (64 : Nat))))) :: ([] : List (Int)))) s)) = a'))
    (h17 : (((Go.IntKind.wrap Go.IntKind.u64 (t + (1 : Int))) :: ([] : List (Int))) = (t' :: ([] : List (Int)))))
    (h18 : ((Go.Num.pushL b (Go.Num.mkE (List.getD ats (Int.toNat k) (0 : Int)) (0 : Int) ((Go.IntKind.wrap Go.IntKind.u8 k) :: ((Go.IntKind.wrap Go.IntKind.u8 (Int.fdiv k ((2 : Int) ^ (min (8 : Nat) (64 : Nat))))) :: ([] : List (Int)))) t)) = b')) :
    ∃ ps, stepPs Try.prog D0 (gamT (orF put3Q putQ) dueNoQ forgetNoQ) 100 (bodyN Try.f6 0) 100 (fgSn ats whos who a s b t k).st [.is true, .is false, .is true] .normal (fgSn ats whos who a' s' b' t' k') = some ps ∧ AllQ ps := ⟨_, fg_ok_z_r ats whos who a a' s s' b b' t t' k k', AllP.all ⟨h1, h2, h3, h4, rfl, rfl, rfl, rfl, rfl, h5, h6, h7, h8, h9, h10, rfl, rfl, rfl, rfl, rfl, h5, h6, h11, h8, h12, h13, rfl, rfl, rfl, rfl, rfl, h14, h15, h16, h17, h18⟩⟩

theorem fg_no_z_r (ats whos : List Int) (who : Int) (a a' : List Rec) (s s' : Int) (b b' : List Rec) (t t' k k' : Int) : stepPs Try.prog D0 (gamT (orF putNo3Q putNoQ) dueNoQ forgetNoQ) 100 (bodyN Try.f6 0) 100 (fgSn ats whos who a s b t k).st [.is true, .is false, .is true] .normal (fgSn ats whos who a' s' b' t' k') =
    some [((decide (k < (((List.length ats) : Nat) : Int))) = Bool.true), ((0 : Int) ≤ k), (k < (((List.length ats) : Nat) : Int)), ((decide (k < (((List.length whos) : Nat) : Int))) = Bool.false), ((List.getD ats (Int.toNat k) (0 : Int)) = (List.getD ats (Int.toNat k) (0 : Int))), ((0 : Int) = (0 : Int)), (((Go.IntKind.wrap Go.IntKind.u8 k) :: ((Go.IntKind.wrap Go.IntKind.u8 (Int.fdiv k ((2 : Int) ^ (min (8 : Nat) (64 : Nat))))) :: ([] : List (Int)))) = ((Go.IntKind.wrap Go.IntKind.u8 k) :: ((Go.IntKind.wrap Go.IntKind.u8 (Int.fdiv k ((2 : Int) ^ (min (8 : Nat) (64 : Nat))))) :: ([] : List (Int))))), (s = s), (a = a), (¬ ((((0 : Int) ≤ (List.getD ats (Int.toNat k) (0 : Int))) ∧ ((List.getD ats (Int.toNat k) (0 : Int)) ≤ (1099511627776 : Int))) ∧ ((List.length a) < (4096 : Nat)))), (((0 : Int) != who) = Bool.true), ((List.getD ats (Int.toNat k) (0 : Int)) = (List.getD ats (Int.toNat k) (0 : Int))), ((0 : Int) = (0 : Int)), (((Go.IntKind.wrap Go.IntKind.u8 k) :: ((Go.IntKind.wrap Go.IntKind.u8 (Int.fdiv k ((2 : Int) ^ (min (8 : Nat) (64 : Nat))))) :: ([] : List (Int)))) = ((Go.IntKind.wrap Go.IntKind.u8 k) :: ((Go.IntKind.wrap Go.IntKind.u8 (Int.fdiv k ((2 : Int) ^ (min (8 : Nat) (64 : Nat))))) :: ([] : List (Int))))), (t = t), (b = b), (¬ ((((0 : Int) ≤ (List.getD ats (Int.toNat k) (0 : Int))) ∧ ((List.getD ats (Int.toNat k) (0 : Int)) ≤ (1099511627776 : Int))) ∧ ((List.length b) < (4096 : Nat)))), (Go.Abs.InI64 (k + (1 : Int))), (ats = ats), (whos = whos), (who = who), (ats = ats), ((((List.length ats) : Nat) : Int) = (((List.length ats) : Nat) : Int)), ((k + (1 : Int)) = k'), (s = s'), (a = a'), ((t :: ([] : List (Int))) = (t' :: ([] : List (Int)))), (b = b')] := by kernel_rfl
theorem fg_no_z (ats whos : List Int) (who : Int) (a a' : List Rec) (s s' : Int) (b b' : List Rec) (t t' k k' : Int)
    (h1 : ((decide (k < (((List.length ats) : Nat) : Int))) = Bool.true))
    (h2 : ((0 : Int) ≤ k))
    (h3 : (k < (((List.length ats) : Nat) : Int)))
    (h4 : ((decide (k < (((List.length whos) : Nat) : Int))) = Bool.false))
    (h5 : (¬ ((((0 : Int) ≤ (List.getD ats (Int.toNat k) (0 : Int))) ∧ ((List.getD ats (Int.toNat k) (0 : Int)) ≤ (1099511627776 : Int))) ∧ ((List.length a) < (4096 : Nat)))))
    (h6 : (((0 : Int) != who) = Bool.true))
    (h7 : (¬ ((((0 : Int) ≤ (List.getD ats (Int.toNat k) (0 : Int))) ∧ ((List.getD ats (Int.toNat k) (0 : Int)) ≤ (1099511627776 : Int))) ∧ ((List.length b) < (4096 : Nat)))))
    (h8 : (Go.Abs.InI64 (k + (1 : Int))))
    (h9 : ((k + (1 : Int)) = k'))
    (h10 : (s = s'))
    (h11 : (a = a'))
    (h12 : ((t :: ([] : List (Int))) = (t' :: ([] : List (Int)))))
    (h13 : (b = b')) :
    ∃ ps, stepPs Try.prog D0 (gamT (orF putNo3Q putNoQ) dueNoQ forgetNoQ) 100 (bodyN Try.f6 0) 100 (fgSn ats whos who a s b t k).st [.is true, .is false, .is true] .normal (fgSn ats whos who a' s' b' t' k') = some ps ∧ AllQ ps := ⟨_, fg_no_z_r ats whos who a a' s s' b b' t t' k k', AllP.all ⟨h1, h2, h3, h4, rfl, rfl, rfl, rfl, rfl, h5, h6, rfl, rfl, rfl, rfl, rfl, h7, h8, rfl, rfl, rfl, rfl, rfl, h9, h10, h11, h12, h13⟩⟩

theorem fg_nok_z_r (ats whos : List Int) (who : Int) (a a' : List Rec) (s s' : Int) (b b' : List Rec) (t t' k k' : Int) : stepPs Try.prog D0 (gamT (orF put3Q putNoQ) dueNoQ forgetNoQ) 100 (bodyN Try.f6 0) 100 (fgSn ats whos who a s b t k).st [.is true, .is false, .is true] .normal (fgSn ats whos who a' s' b' t' k') =
    some [((decide (k < (((List.length ats) : Nat) : Int))) = Bool.true), ((0 : Int) ≤ k), (k < (((List.length ats) : Nat) : Int)), ((decide (k < (((List.length whos) : Nat) : Int))) = Bool.false), ((List.getD ats (Int.toNat k) (0 : Int)) = (List.getD ats (Int.toNat k) (0 : Int))), ((0 : Int) = (0 : Int)), (((Go.IntKind.wrap Go.IntKind.u8 k) :: ((Go.IntKind.wrap Go.IntKind.u8 (Int.fdiv k ((2 : Int) ^ (min (8 : Nat) (64 : Nat))))) :: ([] : List (Int)))) = ((Go.IntKind.wrap Go.IntKind.u8 k) :: ((Go.IntKind.wrap Go.IntKind.u8 (Int.fdiv k ((2 : Int) ^ (min (8 : Nat) (64 : Nat))))) :: ([] : List (Int))))), (s = s), (a = a), (¬ ((((0 : Int) ≤ (List.getD ats (Int.toNat k) (0 : Int))) ∧ ((List.getD ats (Int.toNat k) (0 : Int)) ≤ (1099511627776 : Int))) ∧ ((List.length a) < (4096 : Nat)))), (((0 : Int) != who) = Bool.true), ((List.getD ats (Int.toNat k) (0 : Int)) = (List.getD ats (Int.toNat k) (0 : Int))), ((0 : Int) = (0 : Int)), (((Go.IntKind.wrap Go.IntKind.u8 k) :: ((Go.IntKind.wrap Go.IntKind.u8 (Int.fdiv k ((2 : Int) ^ (min (8 : Nat) (64 : Nat))))) :: ([] : List (Int)))) = ((Go.IntKind.wrap Go.IntKind.u8 k) :: ((Go.IntKind.wrap Go.IntKind.u8 (Int.fdiv k ((2 : Int) ^ (min (8 : Nat) (64 : Nat))))) :: ([] : List (Int))))), (t = t), (b = b), ((0 : Int) ≤ (List.getD ats (Int.toNat k) (0 : Int))), ((List.getD ats (Int.toNat k) (0 : Int)) ≤ (1099511627776 : Int)), ((List.length b) < (4096 : Nat)), ((2 : Nat) ≤ (140737488355328 : Nat)), (Go.Num.EnAll b), (Go.Abs.InI64 (k + (1 : Int))), (ats = ats), (whos = whos), (who = who), (ats = ats), ((((List.length ats) : Nat) : Int) = (((List.length ats) : Nat) : Int)), ((k + (1 : Int)) = k'), (s = s'), (a = a'), (((Go.IntKind.wrap Go.IntKind.u64 (t + (1 : Int))) :: ([] : List (Int))) = (t' :: ([] : List (Int)))), ((Go.Num.pushL b (Go.Num.mkE (List.getD ats (Int.toNat k) (0 : Int)) (0 : Int) ((Go.IntKind.wrap Go.IntKind.u8 k) :: ((Go.IntKind.wrap Go.IntKind.u8 (Int.fdiv k ((2 : Int) ^ (min (8 : Nat) (64 : Nat))))) :: ([] : List (Int)))) t)) = b')] := by kernel_rfl
theorem fg_nok_z (ats whos : List Int) (who : Int) (a a' : List Rec) (s s' : Int) (b b' : List Rec) (t t' k k' : Int)
    (h1 : ((decide (k < (((List.length ats) : Nat) : Int))) = Bool.true))
    (h2 : ((0 : Int) ≤ k))
    (h3 : (k < (((List.length ats) : Nat) : Int)))
    (h4 : ((decide (k < (((List.length whos) : Nat) : Int))) = Bool.false))
    (h5 : (¬ ((((0 : Int) ≤ (List.getD ats (Int.toNat k) (0 : Int))) ∧ ((List.getD ats (Int.toNat k) (0 : Int)) ≤ (1099511627776 : Int))) ∧ ((List.length a) < (4096 : Nat)))))
    (h6 : (((0 : Int) != who) = Bool.true))
    (h7 : ((0 : Int) ≤ (List.getD ats (Int.toNat k) (0 : Int))))
    (h8 : ((List.getD ats (Int.toNat k) (0 : Int)) ≤ (1099511627776 : Int)))
    (h9 : ((List.length b) < (4096 : Nat)))
    (h10 : ((2 : Nat) ≤ (140737488355328 : Nat)))
    (h11 : (Go.Num.EnAll b))
    (h12 : (Go.Abs.InI64 (k + (1 : Int))))
    (h13 : ((k + (1 : Int)) = k'))
    (h14 : (s = s'))
    (h15 : (a = a'))
    (h16 : (((Go.IntKind.wrap Go.IntKind.u64 (t + (1 : Int))) :: ([] : List (Int))) = (t' :: ([] : List (Int)))))
    (h17 : ((Go.Num.pushL b (Go.Num.mkE (List.getD ats (Int.toNat k) (0 : Int)) (0 : Int) ((Go.IntKind.wrap Go.IntKind.u8 k) :: ((Go.IntKind.wrap Go.IntKind.u8 (Int.fdiv k ((2 : Int) ^ (min (8 : Nat) (64 : Nat))))) :: ([] : List (Int)))) t)) = b')) :
    ∃ ps, stepPs Try.prog D0 (gamT (orF put3Q putNoQ) dueNoQ forgetNoQ) 100 (bodyN Try.f6 0) 100 (fgSn ats whos who a s b t k).st [.is true, .is false, .is true] .normal (fgSn ats whos who a' s' b' t' k') = some ps ∧ AllQ ps := ⟨_, fg_nok_z_r ats whos who a a' s s' b b' t t' k k', AllP.all ⟨h1, h2, h3, h4, rfl, rfl, rfl, rfl, rfl, h5, h6, rfl, rfl, rfl, rfl, rfl, h7, h8, h9, h10, h11, h12, rfl, rfl, rfl, rfl, rfl, h13, h14, h15, h16, h17⟩⟩

theorem fg_sok_z_r (ats whos : List Int) (who : Int) (a a' : List Rec) (s s' : Int) (b b' : List Rec) (t t' k k' : Int) : stepPs Try.prog D0 (gamT putQ dueNoQ forgetNoQ) 100 (bodyN Try.f6 0) 100 (fgSn ats whos who a s b t k).st [.is true, .is false, .is false] .normal (fgSn ats whos who a' s' b' t' k') =
    some [((decide (k < (((List.length ats) : Nat) : Int))) = Bool.true), ((0 : Int) ≤ k), (k < (((List.length ats) : Nat) : Int)), ((decide (k < (((List.length whos) : Nat) : Int))) = Bool.false), ((List.getD ats (Int.toNat k) (0 : Int)) = (List.getD ats (Int.toNat k) (0 : Int))), ((0 : Int) = (0 : Int)), (((Go.IntKind.wrap Go.IntKind.u8 k) :: ((Go.IntKind.wrap Go.IntKind.u8 (Int.fdiv k ((2 : Int) ^ (min (8 : Nat) (64 : Nat))))) :: ([] : List (Int)))) = ((Go.IntKind.wrap Go.IntKind.u8 k) :: ((Go.IntKind.wrap Go.IntKind.u8 (Int.fdiv k ((2 : Int) ^ (min (8 : Nat) (64 : Nat))))) :: ([] : List (Int))))), (s = s), (a = a), ((0 : Int) ≤ (List.getD ats (Int.toNat k) (0 : Int))), ((List.getD ats (Int.toNat k) (0 : Int)) ≤ (1099511627776 : Int)), ((List.length a) < (4096 : Nat)), ((2 : Nat) ≤ (140737488355328 : Nat)), (Go.Num.EnAll a), (((0 : Int) != who) = Bool.false), (Go.Abs.InI64 (k + (1 : Int))), (ats = ats), (whos = whos), (who = who), (ats = ats), ((((List.length ats) : Nat) : Int) = (((List.length ats) : Nat) : Int)), ((k + (1 : Int)) = k'), ((Go.IntKind.wrap Go.IntKind.u64 (s + (1 : Int))) = s'), ((Go.Num.pushL a (Go.Num.mkE (List.getD ats (Int.toNat k) (0 : Int)) (0 : Int) ((Go.IntKind.wrap Go.IntKind.u8 k) :: ((Go.IntKind.wrap Go.IntKind.u8 (Int.fdiv k ((2 : Int) ^ (min (8 : Nat) (64 : Nat))))) :: ([] : List (Int)))) s)) = a'), ((t :: ([] : List (Int))) = (t' :: ([] : List (Int)))), (b = b')] := by kernel_rfl
theorem fg_sok_z (ats whos : List Int) (who : Int) (a a' : List Rec) (s s' : Int) (b b' : List Rec) (t t' k k' : Int)
    (h1 : ((decide (k < (((List.length ats) : Nat) : Int))) = Bool.true))
    (h2 : ((0 : Int) ≤ k))
    (h3 : (k < (((List.length ats) : Nat) : Int)))
    (h4 : ((decide (k < (((List.length whos) : Nat) : Int))) = Bool.false))
    (h5 : ((0 : Int) ≤ (List.getD ats (Int.toNat k) (0 : Int))))
    (h6 : ((List.getD ats (Int.toNat k) (0 : Int)) ≤ (1099511627776 : Int)))
    (h7 : ((List.length a) < (4096 : Nat)))
    (h8 : ((2 : Nat) ≤ (140737488355328 : Nat)))
    (h9 : (Go.Num.EnAll a))
    (h10 : (((0 : Int) != who) = Bool.false))
    (h11 : (Go.Abs.InI64 (k + (1 : Int))))
    (h12 : ((k + (1 : Int)) = k'))
    (h13 : ((Go.IntKind.wrap Go.IntKind.u64 (s + (1 : Int))) = s'))
    (h14 : ((Go.Num.pushL a (Go.Num.mkE (List.getD ats (Int.toNat k) (0 : Int)) (0 : Int) ((Go.IntKind.wrap Go.IntKind.u8 k) :: ((Go.IntKind.wrap Go.IntKind.u8 (Int.fdiv k ((2 : Int) ^ (min (8 : Nat) (64 : Nat))))) :: ([] : List (Int)))) s)) = a'))
    (h15 : ((t :: ([] : List (Int))) = (t' :: ([] : List (Int)))))
    (h16 : (b = b')) :
    ∃ ps, stepPs Try.prog D0 (gamT putQ dueNoQ forgetNoQ) 100 (bodyN Try.f6 0) 100 (fgSn ats whos who a s b t k).st [.is true, .is false, .is false] .normal (fgSn ats whos who a' s' b' t' k') = some ps ∧ AllQ ps := ⟨_, fg_sok_z_r ats whos who a a' s s' b b' t t' k k', AllP.all ⟨h1, h2, h3, h4, rfl, rfl, rfl, rfl, rfl, h5, h6, h7, h8, h9, h10, h11, rfl, rfl, rfl, rfl, rfl, h12, h13, h14, h15, h16⟩⟩

theorem fg_sno_z_r (ats whos : List Int) (who : Int) (a a' : List Rec) (s s' : Int) (b b' : List Rec) (t t' k k' : Int) : stepPs Try.prog D0 (gamT putNoQ dueNoQ forgetNoQ) 100 (bodyN Try.f6 0) 100 (fgSn ats whos who a s b t k).st [.is true, .is false, .is false] .normal (fgSn ats whos who a' s' b' t' k') =
    some [((decide (k < (((List.length ats) : Nat) : Int))) = Bool.true), ((0 : Int) ≤ k), (k < (((List.length ats) : Nat) : Int)), ((decide (k < (((List.length whos) : Nat) : Int))) = Bool.false), ((List.getD ats (Int.toNat k) (0 : Int)) = (List.getD ats (Int.toNat k) (0 : Int))), ((0 : Int) = (0 : Int)), (((Go.IntKind.wrap Go.IntKind.u8 k) :: ((Go.IntKind.wrap Go.IntKind.u8 (Int.fdiv k ((2 : Int) ^ (min (8 : Nat) (64 : Nat))))) :: ([] : List (Int)))) = ((Go.IntKind.wrap Go.IntKind.u8 k) :: ((Go.IntKind.wrap Go.IntKind.u8 (Int.fdiv k ((2 : Int) ^ (min (8 : Nat) (64 : Nat))))) :: ([] : List (Int))))), (s = s), (a = a), (¬ ((((0 : Int) ≤ (List.getD ats (Int.toNat k) (0 : Int))) ∧ ((List.getD ats (Int.toNat k) (0 : Int)) ≤ (1099511627776 : Int))) ∧ ((List.length a) < (4096 : Nat)))), (((0 : Int) != who) = Bool.false), (Go.Abs.InI64 (k + (1 : Int))), (ats = ats), (whos = whos), (who = who), (ats = ats), ((((List.length ats) : Nat) : Int) = (((List.length ats) : Nat) : Int)), ((k + (1 : Int)) = k'), (s = s'), (a = a'), ((t :: ([] : List (Int))) = (t' :: ([] : List (Int)))), (b = b')] := by kernel_rfl
theorem fg_sno_z (ats whos : List Int) (who : Int) (a a' : List Rec) (s s' : Int) (b b' : List Rec) (t t' k k' : Int)
    (h1 : ((decide (k < (((List.length ats) : Nat) : Int))) = Bool.true))
    (h2 : ((0 : Int) ≤ k))
    (h3 : (k < (((List.length ats) : Nat) : Int)))
    (h4 : ((decide (k < (((List.length whos) : Nat) : Int))) = Bool.false))
    (h5 : (¬ ((((0 : Int) ≤ (List.getD ats (Int.toNat k) (0 : Int))) ∧ ((List.getD ats (Int.toNat k) (0 : Int)) ≤ (1099511627776 : Int))) ∧ ((List.length a) < (4096 : Nat)))))
    (h6 : (((0 : Int) != who) = Bool.false))
    (h7 : (Go.Abs.InI64 (k + (1 : Int))))
    (h8 : ((k + (1 : Int)) = k'))
    (h9 : (s = s'))
    (h10 : (a = a'))
    (h11 : ((t :: ([] : List (Int))) = (t' :: ([] : List (Int)))))
    (h12 : (b = b')) :
    ∃ ps, stepPs Try.prog D0 (gamT putNoQ dueNoQ forgetNoQ) 100 (bodyN Try.f6 0) 100 (fgSn ats whos who a s b t k).st [.is true, .is false, .is false] .normal (fgSn ats whos who a' s' b' t' k') = some ps ∧ AllQ ps := ⟨_, fg_sno_z_r ats whos who a a' s s' b b' t t' k k', AllP.all ⟨h1, h2, h3, h4, rfl, rfl, rfl, rfl, rfl, h5, h6, h7, rfl, rfl, rfl, rfl, rfl, h8, h9, h10, h11, h12⟩⟩

theorem fg_exit_r (ats whos : List Int) (who : Int) (a : List Rec) (s : Int) (b : List Rec) (t k : Int) : stepPs Try.prog D0 (gamT putQ dueNoQ forgetNoQ) 100 (bodyN Try.f6 0) 100 (fgSn ats whos who a s b t k).st [.is false] (.exit 0) (fgEd who a s b t) =
    some [((decide (k < (((List.length ats) : Nat) : Int))) = Bool.false), (who = who), (s = s), (a = a), ((t :: ([] : List (Int))) = (t :: ([] : List (Int)))), (b = b)] := by kernel_rfl
theorem fg_exit (ats whos : List Int) (who : Int) (a : List Rec) (s : Int) (b : List Rec) (t k : Int)
    (h1 : ((decide (k < (((List.length ats) : Nat) : Int))) = Bool.false)) :
    ∃ ps, stepPs Try.prog D0 (gamT putQ dueNoQ forgetNoQ) 100 (bodyN Try.f6 0) 100 (fgSn ats whos who a s b t k).st [.is false] (.exit 0) (fgEd who a s b t) = some ps ∧ AllQ ps := ⟨_, fg_exit_r ats whos who a s b t k, AllP.all ⟨h1, rfl, rfl, rfl, rfl, rfl⟩⟩

def f2Sn (a : List Rec) (s : Int) (b : List Rec) (t : Int) : Sn D0.τ where
  slots := [(7, .v (.one (.ref 0 0))), (8, .v (.one (.ref 2 0)))]
  boxes := [(0, .fixed 55 (quP s)), (1, rowQ a), (2, .fixed 55 [.own 3, .int .u64 false t]), (3, rowQ b)]
  nt := 85
def f2Ed : Sn D0.τ where
  slots := [(6, .v (.one (.bool true true)))]
  boxes := []
  nt := 85

theorem f2_round_r (a a' : List Rec) (s : Int) (b b' : List Rec) (t : Int) : stepPs Try.prog D0 (gamT putQ dueQ forgetNoQ) 100 (bodyN Try.f6 1) 100 (f2Sn a s b t).st [] .normal (f2Sn a' s b' t) =
    some [((1099511627776 : Int) = (1099511627776 : Int)), (s = s), (a = a), ((0 : Nat) < (List.length a)), ((Go.Abs.recI (List.getD a (0 : Nat) ([] : List (Abs.Fd))) (0 : Nat)) ≤ (1099511627776 : Int)), (Go.Num.EnAll a), ((List.length a) ≤ (100000 : Nat)), ((1099511627776 : Int) = (1099511627776 : Int)), (t = t), (b = b), ((0 : Nat) < (List.length b)), ((Go.Abs.recI (List.getD b (0 : Nat) ([] : List (Abs.Fd))) (0 : Nat)) ≤ (1099511627776 : Int)), (Go.Num.EnAll b), ((List.length b) ≤ (100000 : Nat)), ((Go.Abs.recI (Go.Num.popE a) (0 : Nat)) = (Go.Abs.recI (Go.Num.popE b) (0 : Nat))), ((Go.Abs.recI (Go.Num.popE a) (1 : Nat)) = (Go.Abs.recI (Go.Num.popE b) (1 : Nat))), ((Go.Abs.recW (Go.Num.popE a) (2 : Nat)) = (Go.Abs.recW (Go.Num.popE b) (2 : Nat))), ((List.length (Go.Abs.recW (Go.Num.popE a) (2 : Nat))) ≤ (9223372036854775807 : Nat)), (s = s), ((Go.Num.popL a) = a'), (t = t), ((Go.Num.popL b) = b')] := by kernel_rfl
theorem f2_round (a a' : List Rec) (s : Int) (b b' : List Rec) (t : Int)
    (h1 : ((0 : Nat) < (List.length a)))
    (h2 : ((Go.Abs.recI (List.getD a (0 : Nat) ([] : List (Abs.Fd))) (0 : Nat)) ≤ (1099511627776 : Int)))
    (h3 : (Go.Num.EnAll a))
    (h4 : ((List.length a) ≤ (100000 : Nat)))
    (h5 : ((0 : Nat) < (List.length b)))
    (h6 : ((Go.Abs.recI (List.getD b (0 : Nat) ([] : List (Abs.Fd))) (0 : Nat)) ≤ (1099511627776 : Int)))
    (h7 : (Go.Num.EnAll b))
    (h8 : ((List.length b) ≤ (100000 : Nat)))
    (h9 : ((Go.Abs.recI (Go.Num.popE a) (0 : Nat)) = (Go.Abs.recI (Go.Num.popE b) (0 : Nat))))
    (h10 : ((Go.Abs.recI (Go.Num.popE a) (1 : Nat)) = (Go.Abs.recI (Go.Num.popE b) (1 : Nat))))
    (h11 : ((Go.Abs.recW (Go.Num.popE a) (2 : Nat)) = (Go.Abs.recW (Go.Num.popE b) (2 : Nat))))
    (h12 : ((List.length (Go.Abs.recW (Go.Num.popE a) (2 : Nat))) ≤ (9223372036854775807 : Nat)))
    (h13 : ((Go.Num.popL a) = a'))
    (h14 : ((Go.Num.popL b) = b')) :
    ∃ ps, stepPs Try.prog D0 (gamT putQ dueQ forgetNoQ) 100 (bodyN Try.f6 1) 100 (f2Sn a s b t).st [] .normal (f2Sn a' s b' t) = some ps ∧ AllQ ps := ⟨_, f2_round_r a a' s b b' t, AllP.all ⟨rfl, rfl, rfl, h1, h2, h3, h4, rfl, rfl, rfl, h5, h6, h7, h8, h9, h10, h11, h12, rfl, h13, rfl, h14⟩⟩

theorem f2_exit_r (a : List Rec) (s : Int) (b : List Rec) (t : Int) : stepPs Try.prog D0 (gamT putQ dueNoQ forgetNoQ) 100 (bodyN Try.f6 1) 100 (f2Sn a s b t).st [.is true] .ret f2Ed =
    some [((1099511627776 : Int) = (1099511627776 : Int)), (s = s), (a = a), (Go.Num.noDue a (1099511627776 : Int)), ((1099511627776 : Int) = (1099511627776 : Int)), (t = t), (b = b), (Go.Num.noDue b (1099511627776 : Int)), ((0 : Int) = (0 : Int)), ((0 : Int) = (0 : Int)), (([] : List (Int)) = ([] : List (Int))), ((0 : Nat) ≤ (9223372036854775807 : Nat)), (s = s), (a = a), (((((List.length a) : Nat) : Int) == (0 : Int)) = Bool.true)] := by kernel_rfl
theorem f2_exit (a : List Rec) (s : Int) (b : List Rec) (t : Int)
    (h1 : (Go.Num.noDue a (1099511627776 : Int)))
    (h2 : (Go.Num.noDue b (1099511627776 : Int)))
    (h3 : (((((List.length a) : Nat) : Int) == (0 : Int)) = Bool.true)) :
    ∃ ps, stepPs Try.prog D0 (gamT putQ dueNoQ forgetNoQ) 100 (bodyN Try.f6 1) 100 (f2Sn a s b t).st [.is true] .ret f2Ed = some ps ∧ AllQ ps := ⟨_, f2_exit_r a s b t, AllP.all ⟨rfl, rfl, rfl, h1, rfl, rfl, rfl, h2, rfl, rfl, rfl, (show ((0 : Nat) ≤ (9223372036854775807 : Nat)) from by decide), rfl, rfl, h3⟩⟩

theorem fr_full_r (ats whos : List Int) (who : Int) (a : List Rec) (s : Int) (b : List Rec) (t : Int) : runF Try.prog D0 (gamT putQ dueNoQ forgetNoQ) 100 Try.f6 [.one (.words .i64 ats), .one (.words .i64 whos), .one (.int .i64 false who)] [.loop (loopL D0 (fgSn ats whos who [] 0 [] 0 0) (.exit 0) (fgEd who a s b t)), .is true] =
    some ((Go.Abs.AV.v (Go.Abs.A0.one (Go.Abs.Part.bool Bool.true Bool.true))), [SumOK Try.prog D0 (bodyN Try.f6 0) (loopL D0 (fgSn ats whos who [] 0 [] 0 0) (.exit 0) (fgEd who a s b t)), (ats = ats), (whos = whos), (who = who), (ats = ats), ((((List.length ats) : Nat) : Int) = (((List.length ats) : Nat) : Int)), ((0 : Int) = (0 : Int)), ((0 : Int) = (0 : Int)), (([] : List (Rec)) = ([] : List (Rec))), (((0 : Int) :: ([] : List (Int))) = ((0 : Int) :: ([] : List (Int)))), (([] : List (Rec)) = ([] : List (Rec))), (s = s), (a = a), (((((List.length a) : Nat) : Int) == (4096 : Int)) = Bool.true)]) := by kernel_rfl
theorem fr_full (ats whos : List Int) (who : Int) (a : List Rec) (s : Int) (b : List Rec) (t : Int)
    (h1 : SumOK Try.prog D0 (bodyN Try.f6 0) (loopL D0 (fgSn ats whos who [] 0 [] 0 0) (.exit 0) (fgEd who a s b t)))
    (h2 : (((((List.length a) : Nat) : Int) == (4096 : Int)) = Bool.true)) :
    ∃ ps, runF Try.prog D0 (gamT putQ dueNoQ forgetNoQ) 100 Try.f6 [.one (.words .i64 ats), .one (.words .i64 whos), .one (.int .i64 false who)] [.loop (loopL D0 (fgSn ats whos who [] 0 [] 0 0) (.exit 0) (fgEd who a s b t)), .is true] = some ((Go.Abs.AV.v (Go.Abs.A0.one (Go.Abs.Part.bool Bool.true Bool.true))), ps) ∧ AllQ ps := ⟨_, fr_full_r ats whos who a s b t, AllP.all ⟨h1, rfl, rfl, rfl, rfl, rfl, rfl, rfl, rfl, rfl, rfl, rfl, rfl, h2⟩⟩

theorem fr_none_r (ats whos : List Int) (who : Int) (a : List Rec) (s : Int) (b : List Rec) (t : Int) : runF Try.prog D0 (gamT putQ dueNoQ forgetNoQ) 100 Try.f6 [.one (.words .i64 ats), .one (.words .i64 whos), .one (.int .i64 false who)] [.loop (loopL D0 (fgSn ats whos who [] 0 [] 0 0) (.exit 0) (fgEd who a s b t)), .is false, .loop (loopL D0 (f2Sn (initL a) s b t) .ret f2Ed)] =
    some ((Go.Abs.AV.v (Go.Abs.A0.one (Go.Abs.Part.bool Bool.true Bool.true))), [SumOK Try.prog D0 (bodyN Try.f6 0) (loopL D0 (fgSn ats whos who [] 0 [] 0 0) (.exit 0) (fgEd who a s b t)), (ats = ats), (whos = whos), (who = who), (ats = ats), ((((List.length ats) : Nat) : Int) = (((List.length ats) : Nat) : Int)), ((0 : Int) = (0 : Int)), ((0 : Int) = (0 : Int)), (([] : List (Rec)) = ([] : List (Rec))), (((0 : Int) :: ([] : List (Int))) = ((0 : Int) :: ([] : List (Int)))), (([] : List (Rec)) = ([] : List (Rec))), (s = s), (a = a), (((((List.length a) : Nat) : Int) == (4096 : Int)) = Bool.false), (who = who), (s = s), (a = a), ((List.length a) ≤ (100000 : Nat)), (Go.Num.EnAll a), (Go.Num.noW who a), SumOK Try.prog D0 (bodyN Try.f6 1) (loopL D0 (f2Sn (initL a) s b t) .ret f2Ed), (s = s), ((Go.Num.initL a) = (Go.Num.initL a)), (t = t), (b = b)]) := by kernel_rfl
theorem fr_none (ats whos : List Int) (who : Int) (a : List Rec) (s : Int) (b : List Rec) (t : Int)
    (h1 : SumOK Try.prog D0 (bodyN Try.f6 0) (loopL D0 (fgSn ats whos who [] 0 [] 0 0) (.exit 0) (fgEd who a s b t)))
    (h2 : (((((List.length a) : Nat) : Int) == (4096 : Int)) = Bool.false))
    (h3 : ((List.length a) ≤ (100000 : Nat)))
    (h4 : (Go.Num.EnAll a))
    (h5 : (Go.Num.noW who a))
    (h6 : SumOK Try.prog D0 (bodyN Try.f6 1) (loopL D0 (f2Sn (initL a) s b t) .ret f2Ed)) :
    ∃ ps, runF Try.prog D0 (gamT putQ dueNoQ forgetNoQ) 100 Try.f6 [.one (.words .i64 ats), .one (.words .i64 whos), .one (.int .i64 false who)] [.loop (loopL D0 (fgSn ats whos who [] 0 [] 0 0) (.exit 0) (fgEd who a s b t)), .is false, .loop (loopL D0 (f2Sn (initL a) s b t) .ret f2Ed)] = some ((Go.Abs.AV.v (Go.Abs.A0.one (Go.Abs.Part.bool Bool.true Bool.true))), ps) ∧ AllQ ps := ⟨_, fr_none_r ats whos who a s b t, AllP.all ⟨h1, rfl, rfl, rfl, rfl, rfl, rfl, rfl, rfl, rfl, rfl, rfl, rfl, h2, rfl, rfl, rfl, h3, h4, h5, h6, rfl, rfl, rfl, rfl⟩⟩

theorem fr_some_r (ats whos : List Int) (who : Int) (a : List Rec) (s : Int) (b : List Rec) (t : Int) : runF Try.prog D0 (gamT putQ dueNoQ forgetQ) 100 Try.f6 [.one (.words .i64 ats), .one (.words .i64 whos), .one (.int .i64 false who)] [.loop (loopL D0 (fgSn ats whos who [] 0 [] 0 0) (.exit 0) (fgEd who a s b t)), .is false, .loop (loopL D0 (f2Sn (initL (keepW who a)) s b t) .ret f2Ed)] =
    some ((Go.Abs.AV.v (Go.Abs.A0.one (Go.Abs.Part.bool Bool.true Bool.true))), [SumOK Try.prog D0 (bodyN Try.f6 0) (loopL D0 (fgSn ats whos who [] 0 [] 0 0) (.exit 0) (fgEd who a s b t)), (ats = ats), (whos = whos), (who = who), (ats = ats), ((((List.length ats) : Nat) : Int) = (((List.length ats) : Nat) : Int)), ((0 : Int) = (0 : Int)), ((0 : Int) = (0 : Int)), (([] : List (Rec)) = ([] : List (Rec))), (((0 : Int) :: ([] : List (Int))) = ((0 : Int) :: ([] : List (Int)))), (([] : List (Rec)) = ([] : List (Rec))), (s = s), (a = a), (((((List.length a) : Nat) : Int) == (4096 : Int)) = Bool.false), (who = who), (s = s), (a = a), ((List.length a) ≤ (100000 : Nat)), (Go.Num.EnAll a), (¬ (Go.Num.noW who a)), SumOK Try.prog D0 (bodyN Try.f6 1) (loopL D0 (f2Sn (initL (keepW who a)) s b t) .ret f2Ed), (s = s), ((Go.Num.initL (Go.Num.keepW who a)) = (Go.Num.initL (Go.Num.keepW who a))), (t = t), (b = b)]) := by kernel_rfl
theorem fr_some (ats whos : List Int) (who : Int) (a : List Rec) (s : Int) (b : List Rec) (t : Int)
    (h1 : SumOK Try.prog D0 (bodyN Try.f6 0) (loopL D0 (fgSn ats whos who [] 0 [] 0 0) (.exit 0) (fgEd who a s b t)))
    (h2 : (((((List.length a) : Nat) : Int) == (4096 : Int)) = Bool.false))
    (h3 : ((List.length a) ≤ (100000 : Nat)))
    (h4 : (Go.Num.EnAll a))
    (h5 : (¬ (Go.Num.noW who a)))
    (h6 : SumOK Try.prog D0 (bodyN Try.f6 1) (loopL D0 (f2Sn (initL (keepW who a)) s b t) .ret f2Ed)) :
    ∃ ps, runF Try.prog D0 (gamT putQ dueNoQ forgetQ) 100 Try.f6 [.one (.words .i64 ats), .one (.words .i64 whos), .one (.int .i64 false who)] [.loop (loopL D0 (fgSn ats whos who [] 0 [] 0 0) (.exit 0) (fgEd who a s b t)), .is false, .loop (loopL D0 (f2Sn (initL (keepW who a)) s b t) .ret f2Ed)] = some ((Go.Abs.AV.v (Go.Abs.A0.one (Go.Abs.Part.bool Bool.true Bool.true))), ps) ∧ AllQ ps := ⟨_, fr_some_r ats whos who a s b t, AllP.all ⟨h1, rfl, rfl, rfl, rfl, rfl, rfl, rfl, rfl, rfl, rfl, rfl, rfl, h2, rfl, rfl, rfl, h3, h4, h5, h6, rfl, rfl, rfl, rfl⟩⟩

end Go.Num

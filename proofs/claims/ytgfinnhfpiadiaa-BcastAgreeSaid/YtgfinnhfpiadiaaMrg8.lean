/- Several texts put together: Lib Copy Same Loop BA B1 BEq Range B2 BK B3 B4 BL B5. -/
import Derived.Test.YtgfinnhfpiadiaaMrg7
import Derived.Test.YtgfinnhfpiadiaaProg
import Derived.Shelf.Abstract
import Derived.Shelf.Bytes.SlEqualAll
import Derived.Shelf.Lay
import Derived.Maps.RangeWalk
import Derived.MapKept
namespace Go.Num
open Go.Abs Go.Proofs Go.Shelf
theorem gam_nil {P : Program} {D : Dom} : GamOK P D [] := fun x hx => by cases hx
theorem gam_cons {P : Program} {D : Dom} {f : FuncId} {F : FnD D} {Γ : Gam D} (h : FnOK P D f F) (k : GamOK P D Γ) : GamOK P D ((f, .fn F) :: Γ) := by
  intro x hx
  rcases List.mem_cons.1 hx with rfl | hx
  · exact h
  · exact k x hx
theorem gam_op {P : Program} {D : Dom} {f : FuncId} {ms : List Bool} {F : List (BoxSt D.τ) → List (A0 D.τ) → Option (AV D.τ × List (BoxSt D.τ) × List Prop)} {Γ : Gam D} (h : OpOK P D f F) (k : GamOK P D Γ) : GamOK P D ((f, .op ms F) :: Γ) := by
  intro x hx
  rcases List.mem_cons.1 hx with rfl | hx
  · exact h
  · exact k x hx
theorem gam_rd {P : Program} {D : Dom} {f : FuncId} {ms : List Bool} {F : List (BoxSt D.τ) → List (A0 D.τ) → Option (AV D.τ × List (BoxSt D.τ) × List Prop)} {Γ : Gam D} (h : OpOK P D f (withNew F)) (k : GamOK P D Γ) : GamOK P D ((f, .rd ms F) :: Γ) := by
  intro x hx
  rcases List.mem_cons.1 hx with rfl | hx
  · exact h
  · exact k x hx
theorem gam_fz {P : Program} {D : Dom} {f : FuncId} {F : FnD D} {Γ : Gam D} (h : FnOK P D f F) (k : GamOK P D Γ) : GamOK P D ((f, .fz F) :: Γ) := by
  intro x hx
  rcases List.mem_cons.1 hx with rfl | hx
  · exact h
  · exact k x hx
def freezeD (D : Dom) (l : List Int) : FnD D
  | [.one (.int _ _ n)] => bif l.any (fun m => decide (n = m)) then some (.tup [], [False]) else none
  | _ => none
theorem gam_freeze {P : Program} {D : Dom} {l : List Int} {Γ : Gam D} (k : GamOK P D Γ) : GamOK P D ((freezeId, .fn (freezeD D l)) :: Γ) := by
  refine gam_cons (fun xs r ps h hps => ?_) k
  unfold freezeD at h
  split at h
  · rename_i n
    cases hb : l.any (fun m => decide (n = m)) <;> simp only [hb, cond_true, cond_false] at h
    · cases h
    · simp only [Option.some.injEq, Prod.mk.injEq] at h
      obtain ⟨_, rfl⟩ := h
      exact (hps False (by simp)).elim
  · cases h
theorem gam_swap {P : Program} {D : Dom} {l : List Int} {Γ : Gam D} (k : GamOK P D Γ) : GamOK P D ((swapId, .fn (freezeD D l)) :: Γ) := by
  refine gam_cons (fun xs r ps h hps => ?_) k
  unfold freezeD at h
  split at h
  · rename_i n
    cases hb : l.any (fun m => decide (n = m)) <;> simp only [hb, cond_true, cond_false] at h
    · cases h
    · simp only [Option.some.injEq, Prod.mk.injEq] at h
      obtain ⟨_, rfl⟩ := h
      exact (hps False (by simp)).elim
  · cases h
def lookD (D : Dom) (l : List (Int × Int)) : FnD D
  | [.one (.int _ _ n)] => match l.find? (fun x => decide (x.1 = n)) with
    | some x => some (.v (.one (.int .i64 true x.2)), [False])
    | none => none
  | _ => none
theorem gam_look {P : Program} {D : Dom} {l : List (Int × Int)} {Γ : Gam D} (k : GamOK P D Γ) : GamOK P D ((lookId, .fn (lookD D l)) :: Γ) := by
  refine gam_cons (fun xs r ps h hps => ?_) k
  unfold lookD at h
  split at h
  · split at h
    · simp only [Option.some.injEq, Prod.mk.injEq] at h
      obtain ⟨_, rfl⟩ := h
      exact (hps False (by simp)).elim
    · cases h
  · cases h
theorem gam_nil6 {P : Program} {D : Dom} {l : List Int} {Γ : Gam D} (k : GamOK P D Γ) : GamOK P D ((nilId, .fn (freezeD D l)) :: Γ) := by
  refine gam_cons (fun xs r ps h hps => ?_) k
  unfold freezeD at h
  split at h
  · rename_i n
    cases hb : l.any (fun m => decide (n = m)) <;> simp only [hb, cond_true, cond_false] at h
    · cases h
    · simp only [Option.some.injEq, Prod.mk.injEq] at h
      obtain ⟨_, rfl⟩ := h
      exact (hps False (by simp)).elim
  · cases h
def bornD (D : Dom) (l : List (Int × Int × Int × Int)) : FnD D
  | [.one (.int _ _ n)] => match l.find? (fun x => decide (x.1 = n)) with
    | some x => some (.v (.agg [.int .i64 true x.2.1, .int .i64 true x.2.2.1, .int .i64 true x.2.2.2]), [False])
    | none => none
  | _ => none
theorem gam_born {P : Program} {D : Dom} {l : List (Int × Int × Int × Int)} {Γ : Gam D} (k : GamOK P D Γ) : GamOK P D ((bornId, .fn (bornD D l)) :: Γ) := by
  refine gam_cons (fun xs r ps h hps => ?_) k
  unfold bornD at h
  split at h
  · split at h
    · simp only [Option.some.injEq, Prod.mk.injEq] at h
      obtain ⟨_, rfl⟩ := h
      exact (hps False (by simp)).elim
    · cases h
  · cases h
theorem mixed : Try.prog.follows .mixedOrders = true := by kernel_rfl
theorem er {α : Type} (a : α) : a = a := rfl
theorem qn : AllQ [] := fun p hp => by cases hp
theorem qc {p : Prop} {ps : List Prop} (h : p) (k : AllQ ps) : AllQ (p :: ps) := by
  intro q hq
  rcases List.mem_cons.1 hq with rfl | hq
  · exact h
  · exact k q hq
def loopOf : Nat → Code → Option Code
  | 0, _ => none
  | f + 1, c => match c with
    | .loop a => some a
    | .seq a b => match loopOf f a with
      | some x => some x
      | none => loopOf f b
    | .block _ a => loopOf f a
    | .scope a => loopOf f a
    | .cond _ a b => match loopOf f a with
      | some x => some x
      | none => loopOf f b
    | _ => none
noncomputable def bodyOf (fn : Func) : Code :=
  match fn.body with
  | some c => (match loopOf 100 c with | some a => a | none => .skip)
  | none => .skip
def loopsOf : Nat → Code → List Code
  | 0, _ => []
  | f + 1, c => match c with
    | .loop a => a :: loopsOf f a
    | .seq a b => loopsOf f a ++ loopsOf f b
    | .block _ a => loopsOf f a
    | .scope a => loopsOf f a
    | .cond _ a b => loopsOf f a ++ loopsOf f b
    | _ => []
noncomputable def bodyN (fn : Func) (k : Nat) : Code :=
  match fn.body with
  | some c => (loopsOf 200 c).getD k .skip
  | none => .skip
def nilν : Nat → Value := fun _ => .slice none 0 0
theorem nilν_disj : ∀ i j g, i ≠ j → (nilν i).ownBlock = some g → (nilν j).ownBlock = some g → False := fun _ _ _ _ h _ => by cases h
theorem fresh_nil {D : Dom} {w w' : World} {e : TypeId} {k : IntKind} : PartRel D (renv w w' nilν) (.fresh 0 e k []) [.slice none 0 0] :=
  ⟨rfl, w', rfl, rfl, .inl ⟨rfl, rfl⟩⟩
end Go.Num
namespace Go.Num
open Go.Abs Go.Proofs Go.Shelf
variable (D : Dom)
def copyD : FnD D
  | [.one (.words .u8 l)] => some (.v (.one (.fresh 0 5 .u8 l)), [l.length ≤ 281474976710656])
  | _ => none
def copySn (l m : List Int) (k : Int) : Sn D.τ where
  slots := [(0, .v (.one (.words .u8 l))), (3, .v (.one (.own 0))), (9, .v (.one (.int .i64 false l.length))), (10, .v (.one (.int .i64 false k)))]
  boxes := [(0, .dyn 5 (.ints .u8 m))]
  nt := 22
theorem copy_round (l m : List Int) (k : Nat) : stepPs Try.prog D [] 100 (bodyOf Try.f18) 100 (copySn D l m k).st [.is true] .normal (copySn D l (m.set k (l.getD k 0)) ((k : Int) + 1)) =
    some [decide ((k : Int) < l.length) = true, 0 ≤ (k : Int), (k : Int) < l.length, 0 ≤ (k : Int), (k : Int) < m.length, k < m.length, some 1 = some 1, InI64 (k + 1), l = l, (l.length : Int) = l.length, (k : Int) + 1 = k + 1, m.set k (l.getD k 0) = m.set k (l.getD k 0)] := by kernel_rfl
theorem copy_exit (l m : List Int) (k : Nat) : stepPs Try.prog D [] 100 (bodyOf Try.f18) 100 (copySn D l m k).st [.is false] (.exit 0) (copySn D l m k) =
    some [decide ((k : Int) < l.length) = false, l = l, (l.length : Int) = l.length, (k : Int) = k, m = m] := by kernel_rfl
theorem copy_run (l m n : List Int) (b : Int) : runF Try.prog D [] 100 Try.f18 [.one (.words .u8 l)] [.loop (loopL D (copySn D l n 0) (.exit 0) (copySn D l m b))] =
    some (.v (.one (.fresh 0 5 .u8 m)), [0 ≤ (l.length : Int), (l.length : Int) ≤ l.length, (l.length : Int) ≤ 9223372036854775807, (1 : Nat) * (l.length : Int) ≤ 281474976710656, SumOK Try.prog D (bodyOf Try.f18) (loopL D (copySn D l n 0) (.exit 0) (copySn D l m b)), l = l, (l.length : Int) = l.length, (0 : Int) = 0, List.replicate l.length 0 = n]) := by kernel_rfl
def part1 (l : List Int) (k : Nat) : List Int := l.take k ++ List.replicate (l.length - k) 0
theorem part1_succ {l : List Int} {k : Nat} (h : k < l.length) : (part1 l k).set k (l.getD k 0) = part1 l (k + 1) := by
  have h1 : (l.take k).length = k := by simp; omega
  have h2 : l.length - k = (l.length - (k + 1)) + 1 := by omega
  unfold part1
  rw [h2, List.replicate_succ, List.set_append_right _ _ (by omega), h1, Nat.sub_self, List.set_cons_zero, List.take_succ_eq_append_getElem h, List.append_assoc]
  simp [List.getD_eq_getElem?_getD, List.getElem?_eq_getElem h]
theorem part1_len {l : List Int} {k : Nat} (h : k ≤ l.length) : (part1 l k).length = l.length := by
  unfold part1
  simp
  omega
theorem copy_loop {l : List Int} (h : l.length ≤ 281474976710656) : SumOK Try.prog D (bodyOf Try.f18) (loopL D (copySn D l (part1 l 0) (0 : Nat)) (.exit 0) (copySn D l (part1 l l.length) l.length)) := by
  refine sum_loop gam_nil mixed (fun k => copySn D l (part1 l k) k) l.length rfl (fun k hk => ?_) ?_
  · refine ⟨100, 100, [.is true], _, by rw [← part1_succ hk]; exact copy_round D l (part1 l k) k, ?_⟩
    have := part1_len (l := l) (k := k) (by omega)
    exact AllP.all ⟨decide_eq_true (by omega), by omega, by omega, by omega, by omega, by omega, rfl, ⟨by omega, by omega⟩, rfl, rfl, rfl, rfl⟩
  · refine ⟨100, 100, [.is false], _, copy_exit D l (part1 l l.length) l.length, ?_⟩
    exact AllP.all ⟨decide_eq_false (by omega), rfl, rfl, rfl, rfl⟩
theorem copy_ok : FnOK Try.prog D 18 (copyD D) := by
  refine fnOK_of gam_nil mixed Try.func18 (enters_of Try.func18 (by kernel_rfl) rfl) ?_
  intro xs r ps h hps
  unfold copyD at h
  split at h
  · rename_i l
    simp only [Option.some.injEq, Prod.mk.injEq] at h
    obtain ⟨rfl, rfl⟩ := h
    have hl : l.length ≤ 281474976710656 := hps _ (by simp)
    refine ⟨_, 100, _, _, _, fun w vs h => h, copy_run D l (part1 l l.length) (part1 l 0) l.length, ?_, fun E v hv => ?_⟩
    · exact AllP.all ⟨by omega, by omega, by omega, by omega, copy_loop D hl, rfl, rfl, rfl, by show List.replicate l.length 0 = part1 l 0; simp [part1]⟩
    · have e : part1 l l.length = l := by simp [part1]
      rw [e] at hv
      exact hv
  · cases h
end Go.Num
namespace Go.Num
open Go.Abs Go.Proofs Go.Shelf
variable (D : Dom)
def sameD : FnD D
  | [.one (.words .u8 l), .one (.words .u8 m)] => some (.v (.one (.bool false (decide (l = m)))), [l.length ≤ 9223372036854775807, m.length ≤ 9223372036854775807])
  | _ => none
def sameSn (l m : List Int) (k : Int) : Sn D.τ where
  slots := [(0, .v (.one (.words .u8 l))), (1, .v (.one (.words .u8 m))), (12, .v (.one (.int .i64 false l.length))), (13, .v (.one (.int .i64 false k)))]
  boxes := []
  nt := 26
def sameEnd (b : Bool) : Sn D.τ where
  slots := [(4, .v (.one (.bool true b)))]
  boxes := []
  nt := 26
theorem same_round (l m : List Int) (k : Nat) : stepPs Try.prog D [] 100 (bodyOf Try.f10) 100 (sameSn D l m k).st [.is true, .is false] .normal (sameSn D l m ((k : Int) + 1)) =
    some [decide ((k : Int) < l.length) = true, 0 ≤ (k : Int), (k : Int) < l.length, 0 ≤ (k : Int), (k : Int) < m.length, (l.getD k 0 != m.getD k 0) = false, InI64 (k + 1), l = l, m = m, (l.length : Int) = l.length, (k : Int) + 1 = k + 1] := by kernel_rfl
theorem same_differ (l m : List Int) (k : Nat) : stepPs Try.prog D [] 100 (bodyOf Try.f10) 100 (sameSn D l m k).st [.is true, .is true] .ret (sameEnd D false) =
    some [decide ((k : Int) < l.length) = true, 0 ≤ (k : Int), (k : Int) < l.length, 0 ≤ (k : Int), (k : Int) < m.length, (l.getD k 0 != m.getD k 0) = true] := by kernel_rfl
theorem same_exit (l m : List Int) (k : Nat) : stepPs Try.prog D [] 100 (bodyOf Try.f10) 100 (sameSn D l m k).st [.is false] (.exit 0) (sameSn D l m k) =
    some [decide ((k : Int) < l.length) = false, l = l, m = m, (l.length : Int) = l.length, (k : Int) = k] := by kernel_rfl
theorem same_long (l m : List Int) : runF Try.prog D [] 100 Try.f10 [.one (.words .u8 l), .one (.words .u8 m)] [.is true] = some (.v (.one (.bool true false)), [((l.length : Int) != m.length) = true]) := by kernel_rfl
theorem same_no (l m : List Int) : runF Try.prog D [] 100 Try.f10 [.one (.words .u8 l), .one (.words .u8 m)] [.is false, .loop (loopL D (sameSn D l m (0 : Nat)) .ret (sameEnd D false))] =
    some (.v (.one (.bool true false)), [((l.length : Int) != m.length) = false, SumOK Try.prog D (bodyOf Try.f10) (loopL D (sameSn D l m (0 : Nat)) .ret (sameEnd D false)), l = l, m = m, (l.length : Int) = l.length, (0 : Int) = 0]) := by kernel_rfl
theorem same_yes (l m : List Int) (k : Int) : runF Try.prog D [] 100 Try.f10 [.one (.words .u8 l), .one (.words .u8 m)] [.is false, .loop (loopL D (sameSn D l m (0 : Nat)) (.exit 0) (sameSn D l m k))] =
    some (.v (.one (.bool true true)), [((l.length : Int) != m.length) = false, SumOK Try.prog D (bodyOf Try.f10) (loopL D (sameSn D l m (0 : Nat)) (.exit 0) (sameSn D l m k)), l = l, m = m, (l.length : Int) = l.length, (0 : Int) = 0]) := by kernel_rfl
theorem first_differ : ∀ {l m : List Int}, l.length = m.length → l ≠ m → ∃ k, k < l.length ∧ l.getD k 0 ≠ m.getD k 0 ∧ ∀ j, j < k → l.getD j 0 = m.getD j 0
  | [], [], _, h => (h rfl).elim
  | a :: l, b :: m, hl, h => by
    by_cases hab : a = b
    · subst hab
      obtain ⟨k, h1, h2, h3⟩ := first_differ (l := l) (m := m) (by simpa using hl) (fun e => h (by rw [e]))
      refine ⟨k + 1, by simp; omega, by simpa using h2, fun j hj => ?_⟩
      cases j with
      | zero => rfl
      | succ j => simpa using h3 j (by omega)
    · exact ⟨0, by simp, by simpa using hab, fun j hj => by omega⟩
theorem same_ok : FnOK Try.prog D 10 (sameD D) := by
  refine fnOK_of gam_nil mixed Try.func10 (enters_of Try.func10 (by kernel_rfl) rfl) ?_
  intro xs r ps h hps
  unfold sameD at h
  split at h
  · rename_i l m
    simp only [Option.some.injEq, Prod.mk.injEq] at h
    obtain ⟨rfl, rfl⟩ := h
    have hl : l.length ≤ 9223372036854775807 := hps _ (by simp)
    have step : ∀ k, k < l.length → l.length = m.length → l.getD k 0 = m.getD k 0 → ∃ fuel nid ds ps, stepPs Try.prog D [] fuel (bodyOf Try.f10) nid (sameSn D l m k).st ds .normal (sameSn D l m ((k : Int) + 1)) = some ps ∧ AllQ ps := by
      intro k hk hlm he
      exact ⟨100, 100, _, _, same_round D l m k, AllP.all ⟨decide_eq_true (by omega), by omega, by omega, by omega, by omega, by rw [he]; simp, ⟨by omega, by omega⟩, rfl, rfl, rfl, rfl⟩⟩
    by_cases hlm : l.length = m.length
    · have hne : ((l.length : Int) != m.length) = false := by rw [hlm]; simp
      by_cases he : l = m
      · subst he
        refine ⟨_, 100, _, _, _, fun w vs h => h, same_yes D l l l.length, AllP.all ⟨hne, ?_, rfl, rfl, rfl, rfl⟩, fun E v hv => by rw [decide_eq_true rfl]; exact hv⟩
        refine sum_loop gam_nil mixed (fun k => sameSn D l l k) l.length rfl (fun k hk => step k hk rfl rfl) ?_
        exact ⟨100, 100, _, _, same_exit D l l l.length, AllP.all ⟨decide_eq_false (by omega), rfl, rfl, rfl, rfl⟩⟩
      · obtain ⟨n, hn, hd, hb⟩ := first_differ hlm he
        refine ⟨_, 100, _, _, _, fun w vs h => h, same_no D l m, AllP.all ⟨hne, ?_, rfl, rfl, rfl, rfl⟩, fun E v hv => by rw [decide_eq_false he]; exact hv⟩
        refine sum_loop gam_nil mixed (fun k => sameSn D l m k) n rfl (fun k hk => step k (by omega) hlm (hb k hk)) ?_
        exact ⟨100, 100, _, _, same_differ D l m n, AllP.all ⟨decide_eq_true (by omega), by omega, by omega, by omega, by omega, by show (l.getD n 0 != m.getD n 0) = true; exact bne_iff_ne.2 hd⟩⟩
    · refine ⟨_, 100, _, _, _, fun w vs h => h, same_long D l m, AllP.all ?_, fun E v hv => by rw [decide_eq_false (fun e => hlm (by rw [e]))]; exact hv⟩
      show ((l.length : Int) != m.length) = true
      rw [bne_iff_ne]
      omega
  · cases h
end Go.Num
namespace Go.Abs
open Go.RowKit
section
variable {P : Program} {D : Dom}
end
end Go.Abs
namespace Go.Num
open Go.Abs Go.Proofs Go.Shelf
def noteOb (l : List Int) : Ob := .node [.w l] []
def noteF : FamD Empty where
  row := false
  kt := 3
  vt := 36
  ksh := [.int .i64]
  kagg := false
  vagg := false
  n := 0
  root := fun ob => [.pw .u8 (recW ob.r 0)]
  boxes := fun _ => []
  impl := fun
    | [.pw .u8 l] => .ret (noteOb l, [])
    | _ => .fail
def tkOb (b r t : Bool) (ee rr : List (Rec × Ob)) : Ob := .node [.b b, .b r, .b t] [ee, rr]
def talkF : FamD Empty where
  row := false
  kt := 81
  vt := 72
  ksh := [.int .i64, .int .i64]
  kagg := true
  vagg := false
  n := 3
  root := fun _ => [.ref 0 0]
  boxes := fun ob => [.fixed 76 [.bool false (recB ob.r 0), .bool false (recB ob.r 1), .bool false (recB ob.r 2), .mapr 1, .mapr 2], .fam 0 (ob.c 0) none, .fam 0 (ob.c 1) none]
  impl := fun
    | [.ref b 0] => .box b fun
      | .fixed _ [.bool _ x, .bool _ y, .bool _ z, .mapr c, .mapr d] => .box c fun
        | .fam _ ee _ => .box d fun
          | .fam _ rr _ => .ret (tkOb x y z ee rr, [b, c, d])
          | _ => .fail
        | _ => .fail
      | _ => .fail
    | _ => .fail
def hubOb (me : Int) (mb : List Int) (es : List (Rec × Ob)) : Ob := .node [.i me, .w mb] [es]
def hubF : FamD Empty where
  row := true
  kt := 3
  vt := 46
  ksh := [.int .i64]
  kagg := false
  vagg := false
  n := 2
  root := fun _ => [.ref 0 0]
  boxes := fun ob => [.fixed 65 [.int .i64 false (recI ob.r 0), .pw .i64 (recW ob.r 1), .mapr 1], .fam 1 (ob.c 0) none]
  impl := fun
    | [.ref b 0] => .box b fun
      | .fixed _ [.int .i64 _ me, .pw .i64 mb, .mapr c] => .box c fun
        | .fam _ es _ => .ret (hubOb me mb es, [b, c])
        | _ => .fail
      | _ => .fail
    | _ => .fail
def DB : Dom where
  τ := Empty
  size := fun t => t.elim
  rel := fun t => t.elim
  eqv := fun t => t.elim
  eqs := fun t => t.elim
  len := fun t => t.elim
  one := fun t => t.elim
  fam := fun k => bif Nat.beq k 0 then some noteF else bif Nat.beq k 1 then some talkF else bif Nat.beq k 2 then some hubF else none
  famOf := fun t => bif Nat.beq t 74 then some 0 else bif Nat.beq t 63 then some 1 else bif Nat.beq t 28 then some 2 else none
end Go.Num
namespace Go.Num
open Go.Abs Go.Proofs Go.Shelf Go.RowKit
def ix7Sn (l : List Int) (x k : Int) : Sn DB.τ where
  slots := [(0, .v (.one (.words .i64 l))), (1, .v (.one (.int .i64 false x))), (7, .v (.one (.int .i64 false l.length))), (8, .v (.one (.int .i64 false k)))]
  boxes := []
  nt := 19
def ix7Hit (k : Int) : Sn DB.τ where
  slots := [(4, .v (.one (.int .i64 false k)))]
  boxes := []
  nt := 19
def ix7End : Sn DB.τ where
  slots := []
  boxes := []
  nt := 19
theorem ix7_step (l : List Int) (x k k' : Int)
 (h1 : ((decide (k < (((List.length l) : Nat) : Int))) = true))
 (h2 : ((0 : Int) ≤ k))
 (h3 : (k < (((List.length l) : Nat) : Int)))
 (h4 : ((x == (List.getD l (Int.toNat k) (0 : Int))) = false))
 (h5 : (InI64 (k + (1 : Int))))
 (h6 : ((k + (1 : Int)) = k')) :
 ∃ ps, stepPs Try.prog DB [] 100 (bodyN Try.f25 0) 100 (ix7Sn l x k).st [.is true, .is false] .normal (ix7Sn l x k') = some ps ∧ AllQ ps := ⟨_, by kernel_rfl, qc h1 (qc h2 (qc h3 (qc h4 (qc h5 (qc (er l) (qc (er x) (qc (er ((((List.length l) : Nat) : Int))) (qc h6 (qn)))))))))⟩
theorem ix7_hit (l : List Int) (x k : Int)
 (h1 : ((decide (k < (((List.length l) : Nat) : Int))) = true))
 (h2 : ((0 : Int) ≤ k))
 (h3 : (k < (((List.length l) : Nat) : Int)))
 (h4 : ((x == (List.getD l (Int.toNat k) (0 : Int))) = true)) :
 ∃ ps, stepPs Try.prog DB [] 100 (bodyN Try.f25 0) 100 (ix7Sn l x k).st [.is true, .is true] .ret (ix7Hit k) = some ps ∧ AllQ ps := ⟨_, by kernel_rfl, qc h1 (qc h2 (qc h3 (qc h4 (qc (er k) (qn)))))⟩
theorem ix7_exit (l : List Int) (x k : Int)
 (h1 : ((decide (k < (((List.length l) : Nat) : Int))) = false)) :
 ∃ ps, stepPs Try.prog DB [] 100 (bodyN Try.f25 0) 100 (ix7Sn l x k).st [.is false] (.exit 0) ix7End = some ps ∧ AllQ ps := ⟨_, by kernel_rfl, qc h1 (qn)⟩
theorem ix7_yes (l : List Int) (x n : Int)
 (h1 : SumOK Try.prog DB (bodyN Try.f25 0) (loopL DB (ix7Sn l x (0 : Nat)) .ret (ix7Hit n))) :
 ∃ ps, runF Try.prog DB [] 100 Try.f25 [.one (.words .i64 l), .one (.int .i64 false x)] [.loop (loopL DB (ix7Sn l x (0 : Nat)) .ret (ix7Hit n))] = some ((AV.v (A0.one (Part.int Go.IntKind.i64 false n))), ps) ∧ AllQ ps := ⟨_, by kernel_rfl, qc h1 (qc (er l) (qc (er x) (qc (er ((((List.length l) : Nat) : Int))) (qc (show ((0 : Int) = (((0 : Nat) : Nat) : Int)) from by decide) (qn)))))⟩
theorem ix7_no (l : List Int) (x : Int)
 (h1 : SumOK Try.prog DB (bodyN Try.f25 0) (loopL DB (ix7Sn l x (0 : Nat)) (.exit 0) ix7End)) :
 ∃ ps, runF Try.prog DB [] 100 Try.f25 [.one (.words .i64 l), .one (.int .i64 false x)] [.loop (loopL DB (ix7Sn l x (0 : Nat)) (.exit 0) ix7End)] = some ((AV.v (A0.one (Part.int Go.IntKind.i64 true (-(1 : Int))))), ps) ∧ AllQ ps := ⟨_, by kernel_rfl, qc h1 (qc (er l) (qc (er x) (qc (er ((((List.length l) : Nat) : Int))) (qc (show ((0 : Int) = (((0 : Nat) : Nat) : Int)) from by decide) (qn)))))⟩
def idxF : List Int → Int → Int
  | [], _ => -1
  | r :: l, x => if r = x then 0 else if idxF l x < 0 then -1 else idxF l x + 1
theorem idx_cases : ∀ (l : List Int) (x : Int), (∃ n : Nat, n < l.length ∧ l.getD n 0 = x ∧ (∀ k, k < n → l.getD k 0 ≠ x) ∧ idxF l x = (n : Int)) ∨ ((∀ k, k < l.length → l.getD k 0 ≠ x) ∧ idxF l x = -1)
  | [], x => Or.inr ⟨fun k hk => absurd hk (Nat.not_lt_zero k), rfl⟩
  | r :: l, x => by
    by_cases h : r = x
    · left
      exact ⟨0, Nat.succ_pos _, by simpa using h, fun k hk => absurd hk (Nat.not_lt_zero k), by unfold idxF; rw [if_pos h]; rfl⟩
    · rcases idx_cases l x with ⟨n, h1, h2, h3, h4⟩ | ⟨h1, h2⟩
      · left
        refine ⟨n + 1, Nat.succ_lt_succ h1, by simpa using h2, fun k hk => ?_, ?_⟩
        · cases k with
          | zero => simpa using h
          | succ k => simpa using h3 k (by omega)
        · unfold idxF
          rw [if_neg h, if_neg (by omega), h4]
          omega
      · right
        refine ⟨fun k hk => ?_, by unfold idxF; rw [if_neg h, if_pos (by omega)]⟩
        cases k with
        | zero => simpa using h
        | succ k => simpa using h1 k (by simpa using hk)
theorem idx_mem (l : List Int) (x : Int) : (0 ≤ idxF l x) = (x ∈ l) := by
  rcases idx_cases l x with ⟨n, h1, h2, _, h4⟩ | ⟨h1, h2⟩
  · refine propext ⟨fun _ => ?_, fun _ => by omega⟩
    rw [← h2, List.getD_eq_getElem?_getD, List.getElem?_eq_getElem h1]
    exact List.getElem_mem h1
  · refine propext ⟨fun h => by omega, fun h => ?_⟩
    obtain ⟨i, hi, he⟩ := List.getElem_of_mem h
    refine (h1 i hi ?_).elim
    rw [List.getD_eq_getElem?_getD, List.getElem?_eq_getElem hi]
    exact he
def index7D : FnD DB
  | [.one (.words .i64 l), .one (.int .i64 _ x)] => some (.v (.one (.int .i64 false (idxF l x))), [l.length ≤ 1000])
  | _ => none
theorem index7_ok : FnOK Try.prog DB 25 index7D := by
  refine fnOK_of gam_nil mixed Try.func25 (enters_of Try.func25 (by kernel_rfl) rfl) ?_
  intro xs r ps h hps
  unfold index7D at h
  split at h
  · rename_i l b x
    simp only [Option.some.injEq, Prod.mk.injEq] at h
    obtain ⟨rfl, rfl⟩ := h
    have hx : l.length ≤ 1000 := hps (l.length ≤ 1000) (by simp)
    have hst : ∀ k : Nat, k < l.length → l.getD k 0 ≠ x → ∃ fuel nid ds ps, stepPs Try.prog DB [] fuel (bodyN Try.f25 0) nid (ix7Sn l x k).st ds .normal (ix7Sn l x ((k + 1 : Nat) : Int)) = some ps ∧ AllQ ps := fun k hk hn =>
      ⟨_, _, _, ix7_step l x k _ (decide_eq_true (by omega)) (by omega) (by omega) (by rw [Int.toNat_natCast]; exact beq_eq_false_iff_ne.2 (Ne.symm hn)) ⟨by omega, by omega⟩ rfl⟩
    rcases idx_cases l x with ⟨n, h1, h2, h3, h4⟩ | ⟨h1, h2⟩
    · obtain ⟨ps, p1, p2⟩ := ix7_yes l x n (sum_loop gam_nil mixed (c := bodyN Try.f25 0) (fun k => ix7Sn l x k) n (e := .ret) (s := ix7Hit n) rfl (fun k hk => hst k (by omega) (h3 k hk))
        ⟨_, _, _, ix7_hit l x n (decide_eq_true (by omega)) (by omega) (by omega) (by rw [Int.toNat_natCast]; exact beq_iff_eq.2 h2.symm)⟩)
      exact ⟨[.one (.words .i64 l), .one (.int .i64 false x)], 100, _, _, _, fun w vs h => h, p1, p2, fun E v hv => by rw [h4]; exact hv⟩
    · obtain ⟨ps, p1, p2⟩ := ix7_no l x (sum_loop gam_nil mixed (c := bodyN Try.f25 0) (fun k => ix7Sn l x k) l.length (e := .exit 0) (s := ix7End) rfl (fun k hk => hst k hk (h1 k hk))
        ⟨_, _, _, ix7_exit l x _ (decide_eq_false (by omega))⟩)
      exact ⟨[.one (.words .i64 l), .one (.int .i64 false x)], 100, _, _, _, fun w vs h => h, p1, p2, fun E v hv => by rw [h2]; exact hv⟩
  · cases h
noncomputable def gCt : Gam DB := [(25, .fn index7D)]
theorem gCt_ok : GamOK Try.prog DB gCt := gam_cons index7_ok gam_nil
theorem ct7_run (l : List Int) (x : Int)
 (h1 : ((List.length l) ≤ (1000 : Nat))) :
 ∃ ps, runF Try.prog DB gCt 100 Try.f20 [.one (.words .i64 l), .one (.int .i64 false x)] [.keep, .keep] = some ((AV.v (A0.one (Part.bool (false && true) (decide ((idxF l x) ≥ (0 : Int)))))), ps) ∧ AllQ ps := ⟨_, by kernel_rfl, qc h1 (qn)⟩
theorem cb7_nil  :
 ∃ ps, runF Try.prog DB [] 100 Try.f24 [.one .nil] [] = some ((AV.v (A0.one (Part.nil))), ps) ∧ AllQ ps := ⟨_, by kernel_rfl, qn⟩
theorem cb7_some (l : List Int)
 (h1 : (((0 : Nat) + (List.length l)) ≤ (9223372036854775807 : Nat)))
 (h2 : ((((0 : Nat) + (List.length l)) * (1 : Nat)) ≤ (140737488355328 : Nat))) :
 ∃ ps, runF Try.prog DB [] 100 Try.f24 [.one (.nnw .u8 l)] [] = some ((AV.v (A0.one (Part.fresh (0 : Nat) (5 : Nat) Go.IntKind.u8 (([] : List (Int)) ++ l)))), ps) ∧ AllQ ps := ⟨_, by kernel_rfl, qc h1 (qc h2 (qn))⟩
theorem ci7_nil  :
 ∃ ps, runF Try.prog DB [] 100 Try.f21 [.one .nil] [] = some ((AV.v (A0.one (Part.nil))), ps) ∧ AllQ ps := ⟨_, by kernel_rfl, qn⟩
theorem ci7_some (l : List Int)
 (h1 : (((0 : Nat) + (List.length l)) ≤ (9223372036854775807 : Nat)))
 (h2 : ((((0 : Nat) + (List.length l)) * (8 : Nat)) ≤ (140737488355328 : Nat))) :
 ∃ ps, runF Try.prog DB [] 100 Try.f21 [.one (.nnw .i64 l)] [] = some ((AV.v (A0.one (Part.fresh (0 : Nat) (3 : Nat) Go.IntKind.i64 (([] : List (Int)) ++ l)))), ps) ∧ AllQ ps := ⟨_, by kernel_rfl, qc h1 (qc h2 (qn))⟩
def contains7D : FnD DB
  | [.one (.words .i64 l), .one (.int .i64 _ x)] => some (.v (.one (.bool false (decide (0 ≤ idxF l x)))), [l.length ≤ 1000])
  | _ => none
theorem contains7_ok : FnOK Try.prog DB 20 contains7D := by
  refine fnOK_of gCt_ok mixed Try.func20 (enters_of Try.func20 (by kernel_rfl) rfl) ?_
  intro xs r ps h hps
  unfold contains7D at h
  split at h
  · rename_i l b x
    simp only [Option.some.injEq, Prod.mk.injEq] at h
    obtain ⟨rfl, rfl⟩ := h
    obtain ⟨ps, p1, p2⟩ := ct7_run l x (hps (l.length ≤ 1000) (by simp))
    exact ⟨[.one (.words .i64 l), .one (.int .i64 false x)], 100, _, _, _, fun w vs h => h, p1, p2, fun E v hv => hv⟩
  · cases h
theorem one_words {w : World} {k : IntKind} {l : List Int} {vs : List Value} (hx : A0sRel DB (cenv w) [.one (.words k l)] vs) : ∃ v, vs = [v] ∧ SlRel (cenv w).M (cenv w).w0 k l v := by
  obtain ⟨v, us, rfl, ⟨hone, u, hu, M, W, hB, hS⟩, h3⟩ := hx
  cases h3
  simp only [List.cons.injEq, and_true] at hu
  subst hu
  refine ⟨_, rfl, ?_⟩
  rcases hB with ⟨rfl, rfl⟩ | ⟨rfl, rfl⟩
  · exact hS
  · obtain ⟨ao, cap, e, q1, q2, q3, q4⟩ := hS
    refine ⟨ao, cap, e, q1, q2, q3, fun i hi => ?_⟩
    obtain ⟨b, off, r1, r2, r3⟩ := q4 i hi
    exact ⟨b, off, r1, fun h => h.elim, r3⟩
def clB7 : FnD DB
  | [.one (.words .u8 l)] => some (.v (.one (.fresh 0 5 .u8 l)), [l.length ≤ 140737488355328])
  | _ => none
theorem clB7_ok : FnOK Try.prog DB 24 clB7 := by
  intro xs r ps hF hps w vs hgl hx
  unfold clB7 at hF
  split at hF
  · rename_i l
    simp only [Option.some.injEq, Prod.mk.injEq] at hF
    obtain ⟨rfl, rfl⟩ := hF
    have hlen : l.length ≤ 140737488355328 := hps _ (List.mem_cons_self ..)
    obtain ⟨v, rfl, h2⟩ := one_words hx
    obtain ⟨ao, cap, rfl, q1, q2, q3, q4⟩ := h2
    refine ⟨_, enters_of Try.func24 (by kernel_rfl) rfl _ w, ?_⟩
    cases ao with
    | none =>
      have hc := q3 rfl
      subst hc
      have hl0 : l = [] := List.length_eq_zero_iff.1 (by omega)
      subst hl0
      obtain ⟨ps, r1, r2⟩ := cb7_nil
      refine (runF_calls gam_nil mixed Try.func24 r1 r2 hgl ⟨_, [], rfl, ⟨rfl, rfl⟩, rfl⟩).mono ?_
      rintro e w' ⟨v, he, ⟨ν, _, hr⟩, hb⟩
      have hv : [v] = [Value.slice none 0 0] := hr.2
      simp only [List.cons.injEq, and_true] at hv
      subst hv
      exact ⟨_, he, ⟨nilν, nilν_disj, rfl, fresh_nil⟩, hb⟩
    | some a =>
      obtain ⟨ps, r1, r2⟩ := cb7_some l (by omega) (by omega)
      refine (runF_calls gam_nil mixed Try.func24 r1 r2 hgl ⟨_, [], rfl, ⟨rfl, a, l.length, cap, rfl, some a, cap, rfl, q1, q2, q3, q4⟩, rfl⟩).mono ?_
      rintro e w' ⟨v, he, hr, hb⟩
      exact ⟨v, he, hr, hb⟩
  · cases hF
def clI7 : FnD DB
  | [.one (.words .i64 l)] => some (.v (.one (.fresh 0 3 .i64 l)), [l.length ≤ 17592186044416])
  | _ => none
theorem clI7_ok : FnOK Try.prog DB 21 clI7 := by
  intro xs r ps hF hps w vs hgl hx
  unfold clI7 at hF
  split at hF
  · rename_i l
    simp only [Option.some.injEq, Prod.mk.injEq] at hF
    obtain ⟨rfl, rfl⟩ := hF
    have hlen : l.length ≤ 17592186044416 := hps _ (List.mem_cons_self ..)
    obtain ⟨v, rfl, h2⟩ := one_words hx
    obtain ⟨ao, cap, rfl, q1, q2, q3, q4⟩ := h2
    refine ⟨_, enters_of Try.func21 (by kernel_rfl) rfl _ w, ?_⟩
    cases ao with
    | none =>
      have hc := q3 rfl
      subst hc
      have hl0 : l = [] := List.length_eq_zero_iff.1 (by omega)
      subst hl0
      obtain ⟨ps, r1, r2⟩ := ci7_nil
      refine (runF_calls gam_nil mixed Try.func21 r1 r2 hgl ⟨_, [], rfl, ⟨rfl, rfl⟩, rfl⟩).mono ?_
      rintro e w' ⟨v, he, ⟨ν, _, hr⟩, hb⟩
      have hv : [v] = [Value.slice none 0 0] := hr.2
      simp only [List.cons.injEq, and_true] at hv
      subst hv
      exact ⟨_, he, ⟨nilν, nilν_disj, rfl, fresh_nil⟩, hb⟩
    | some a =>
      obtain ⟨ps, r1, r2⟩ := ci7_some l (by omega) (by omega)
      refine (runF_calls gam_nil mixed Try.func21 r1 r2 hgl ⟨_, [], rfl, ⟨rfl, a, l.length, cap, rfl, some a, cap, rfl, q1, q2, q3, q4⟩, rfl⟩).mono ?_
      rintro e w' ⟨v, he, hr, hb⟩
      exact ⟨v, he, hr, hb⟩
  · cases hF
end Go.Num
namespace Go.Proofs
open Go.Shelf
shelf_lay Lays.nb115 Nm 115 at Try as Try.bq
end Go.Proofs
namespace Go.Abs
open Go.RowKit Go.ChangeMaps Go.Maps Go.MapKept
def IterAt (w : World) (b r : Nat) (ens : Array MapEntry) (clock : Nat) (seen : Array Nat) : Prop :=
  w.heap[b]? = some (.map ens clock) ∧ ∃ c0, w.heap[r]? = some (.mapIter (some b) clock seen c0) ∧ clock ≤ c0
theorem IterAt.kept {w w' : World} {b r : Nat} {ens : Array MapEntry} {clock : Nat} {seen : Array Nat} {row : Option Nat} (h : IterAt w b r ens clock seen) (hg : w.grownBy w' row) (hb : some b ≠ row) (hr : some r ≠ row) :
    IterAt w' b r ens clock seen := by
  obtain ⟨h1, c0, h2, h3⟩ := h
  have l1 : b < w.heap.size := (Array.getElem?_eq_some_iff.1 h1).1
  have l2 : r < w.heap.size := (Array.getElem?_eq_some_iff.1 h2).1
  exact ⟨(hg.block b l1 hb).trans h1, c0, (hg.block r l2 hr).trans h2, h3⟩
theorem IterAt.lt {w : World} {b r : Nat} {ens : Array MapEntry} {clock : Nat} {seen : Array Nat} (h : IterAt w b r ens clock seen) : r < w.heap.size := by
  obtain ⟨h1, c0, h2, h3⟩ := h
  exact (Array.getElem?_eq_some_iff.1 h2).1
theorem IterAt.ne {w : World} {b r : Nat} {ens : Array MapEntry} {clock : Nat} {seen : Array Nat} (h : IterAt w b r ens clock seen) : r ≠ b := by
  obtain ⟨h1, c0, h2, h3⟩ := h
  intro e
  rw [e, h1] at h2
  cases h2
def leftSum (f : MapEntry → Int) (ens : Array MapEntry) (seen : Array Nat) : Int := ((leftOf ens seen).toList.map f).sum
theorem leftOf_list (ens : Array MapEntry) (seen : Array Nat) : (leftOf ens seen).toList = ens.toList.filter fun e => !seen.contains e.born := by
  unfold leftOf
  rw [Array.toList_filter]
theorem filter_less (f : MapEntry → Int) : ∀ (l : List MapEntry) (p : MapEntry → Bool) (e : MapEntry), (l.map (·.born)).Nodup → e ∈ l → p e = true →
    ((l.filter fun x => p x && !(x.born == e.born)).map f).sum = ((l.filter p).map f).sum - f e ∧ (l.filter fun x => p x && !(x.born == e.born)).length + 1 = (l.filter p).length
  | [], _, _, _, h, _ => by cases h
  | a :: l, p, e, hn, h, hp => by
    simp only [List.map_cons, List.nodup_cons] at hn
    rcases List.mem_cons.1 h with rfl | h
    · have hsame : l.filter (fun x => p x && !(x.born == e.born)) = l.filter p := by
        refine List.filter_congr fun x hx => ?_
        have : x.born ≠ e.born := fun he => hn.1 (List.mem_map.2 ⟨x, hx, he⟩)
        rw [beq_eq_false_iff_ne.2 this]
        simp
      have e1 : (p e && !(e.born == e.born)) = false := by simp
      rw [List.filter_cons_of_neg (by rw [e1]; decide), List.filter_cons_of_pos hp, hsame]
      simp only [List.map_cons, List.sum_cons, List.length_cons]
      exact ⟨by omega, trivial⟩
    · obtain ⟨h1, h2⟩ := filter_less f l p e hn.2 h hp
      have hne : a.born ≠ e.born := fun he => hn.1 (List.mem_map.2 ⟨e, h, he.symm⟩)
      have e1 : (p a && !(a.born == e.born)) = p a := by rw [beq_eq_false_iff_ne.2 hne]; simp
      cases hpa : p a
      · rw [List.filter_cons_of_neg (by rw [e1, hpa]; decide), List.filter_cons_of_neg (by rw [hpa]; decide)]
        exact ⟨h1, h2⟩
      · rw [List.filter_cons_of_pos (by rw [e1, hpa]), List.filter_cons_of_pos hpa]
        simp only [List.map_cons, List.sum_cons, List.length_cons]
        omega
theorem Born.nodup {ens : Array MapEntry} {clock : Nat} (h : Born ens clock) : (ens.toList.map (·.born)).Nodup := by
  refine List.Pairwise.imp ?_ h.1
  intro a b hab
  omega
theorem left_next (f : MapEntry → Int) {ens : Array MapEntry} {clock : Nat} {seen : Array Nat} (hB : Born ens clock) {e : MapEntry} (he : e ∈ (leftOf ens seen).toList) :
    leftSum f ens (seen.push e.born) = leftSum f ens seen - f e ∧ (leftOf ens (seen.push e.born)).size < (leftOf ens seen).size := by
  have h1 := mem_left he
  have hfun : (fun x : MapEntry => !(seen.push e.born).contains x.born) = fun x => (!seen.contains x.born) && !(x.born == e.born) := by
    funext x
    have : (seen.push e.born).contains x.born = (seen.contains x.born || x.born == e.born) := by
      rw [Array.contains_push]
    rw [this, Bool.not_or]
  obtain ⟨h2, h3⟩ := filter_less f ens.toList (fun x => !seen.contains x.born) e hB.nodup h1.1 (by simp only [h1.2, Bool.not_false])
  unfold leftSum
  rw [leftOf_list, hfun]
  refine ⟨?_, ?_⟩
  · rw [h2, ← leftOf_list]
  · rw [← Array.length_toList, ← Array.length_toList, leftOf_list, leftOf_list, hfun]
    omega
theorem left_start (f : MapEntry → Int) (ens : Array MapEntry) : leftSum f ens #[] = (ens.toList.map f).sum := by
  unfold leftSum
  rw [leftOf_list]
  congr 2
  exact List.filter_eq_self.2 (fun a _ => by simp)
theorem left_end (f : MapEntry → Int) {ens : Array MapEntry} {seen : Array Nat} (h : (leftOf ens seen).size = 0) : leftSum f ens seen = 0 := by
  unfold leftSum
  rw [← Array.length_toList, List.length_eq_zero_iff] at h
  rw [h]
  rfl
theorem left_bounds (f : MapEntry → Int) {ens : Array MapEntry} (seen : Array Nat) (h : ∀ e ∈ ens.toList, 0 ≤ f e) : 0 ≤ leftSum f ens seen ∧ leftSum f ens seen ≤ (ens.toList.map f).sum := by
  unfold leftSum
  rw [leftOf_list]
  generalize (fun e : MapEntry => !seen.contains e.born) = p
  revert h
  induction ens.toList with
  | nil => exact fun _ => ⟨Int.le_refl _, Int.le_refl _⟩
  | cons a l ih =>
    intro h
    have h1 := ih (fun e he => h e (List.mem_cons_of_mem _ he))
    have h2 := h a (List.mem_cons_self ..)
    cases hp : p a
    · rw [List.filter_cons_of_neg (by rw [hp]; decide), List.map_cons, List.sum_cons]
      omega
    · rw [List.filter_cons_of_pos hp, List.map_cons, List.map_cons, List.sum_cons, List.sum_cons]
      omega
section
variable {P : Program} (w : World) {ops : Array Oper} {rest : List Oper} {o : Oper} {a : Act} {Q : Exit → Act → World → Prop}
theorem wpList_range_it (hg : o.guard = none) (m : Operand) (t : TypeId) (hop : o.op = Op.range t m) (k e : TypeId) (ht : P.underlying t = some (.map k e)) (b : Nat) (ens : Array MapEntry) (clock : Nat)
    (hm : a.eval m = .map (some b)) (hb : w.heap[b]? = some (.map ens clock))
    (hK : ∀ w', IterAt w' b w.heap.size ens clock #[] → w.grownBy w' none → w'.heap.size = w.heap.size + 1 → wpList P ops Q rest (a.put o.dst (.pointer (some ⟨w.heap.size, 0, none⟩))) w') :
    wpList P ops Q (o :: rest) a w := by
  refine wpList_plain hg fun K' hK' => ?_
  have hrun := run_range_map w t k e b ens clock ht hb
  have hlt : b < w.heap.size := (Array.getElem?_eq_some_iff.1 hb).1
  unfold Oper.wp
  simp [execOp, hop, hm, hrun, Result.andThen]
  exact hK' _ _ (hK _ ⟨((heap_alloc w _).2 b hlt).trans hb, clock, (heap_alloc w _).1, Nat.le_refl _⟩ (World.grownBy_alloc w _ none) (by simp))
theorem wpList_next_it (hg : o.guard = none) (it : Operand) (hop : o.op = Op.next it false) (b r : Nat) (ens : Array MapEntry) (clock : Nat) (seen : Array Nat) (hB : Born ens clock)
    (hit : a.eval it = .pointer (some ⟨r, 0, none⟩)) (h : IterAt w b r ens clock seen)
    (hDone : (leftOf ens seen).size = 0 → wpList P ops Q rest (a.put o.dst (.tuple #[.bool false])) w)
    (hMore : ∀ (e : MapEntry) (w' : World), e ∈ ens.toList → e ∈ (leftOf ens seen).toList → IterAt w' b r ens clock (seen.push e.born) → w.grownBy w' (some r) → w'.heap.size = w.heap.size →
      (Instr.entry (.pointer (some ⟨r, 0, none⟩))).run P w' = .ok (.tuple #[e.key, e.val]) w' → wpList P ops Q rest (a.put o.dst (.tuple #[.bool true, e.key, e.val])) w') :
    wpList P ops Q (o :: rest) a w := by
  have hne := h.ne
  obtain ⟨hb, c0, hr, hc⟩ := h
  refine wpList_plain hg fun K' hK' => ?_
  unfold Oper.wp
  rcases run_next_at (P := P) w o.type r b clock c0 seen ens clock hr hb hB.2 hc with ⟨h0, hrun⟩ | ⟨e, he, w1, hal, hrun⟩
  · simp [execOp, hop, hit, hrun, Result.andThen]
    exact hK' _ _ (hDone h0)
  · simp [execOp, hop, hit, hrun, Result.andThen]
    have hr1 : w1.heap[r]? = some (.mapIter (some b) clock seen c0) := by rcases hal with rfl | rfl <;> exact hr
    have hb1 : w1.heap[b]? = some (.map ens clock) := by rcases hal with rfl | rfl <;> exact hb
    have hset := heap_set (o' := .mapIter (some b) clock (seen.push e.born) clock) hr1
    have hb' : (setBlock w1 r (.mapIter (some b) clock (seen.push e.born) clock)).heap[b]? = some (.map ens clock) := (hset.2 b (fun e1 => hne e1.symm)).trans hb1
    have hem := (mem_left he).1
    refine hK' _ _ (hMore e _ hem he ⟨hb', clock, hset.1, Nat.le_refl _⟩ ⟨?_, ?_, ?_, ?_, ?_⟩ ?_ ?_)
    · rcases hal with rfl | rfl <;> rfl
    · rcases hal with rfl | rfl <;> rfl
    · rcases hal with rfl | rfl <;> rfl
    · rcases hal with rfl | rfl <;> simp [setBlock]
    · intro k hk hkr
      refine (hset.2 k (fun e1 => hkr (by rw [e1]))).trans ?_
      rcases hal with rfl | rfl <;> rfl
    · rcases hal with rfl | rfl <;> simp [setBlock]
    · exact run_entry_at _ r b clock seen ens clock e hset.1 hb' hem hB.nodup
end
end Go.Abs
namespace Go.Num
open Go.Abs Go.Proofs Go.Shelf Go.RowKit Go.Maps
theorem bequal (p1 p2 : Option Addr) (n c m d : Nat) (xs ys : List Int) (w : World) (hx : xs.length = n) (hy : ys.length = m) (h1 : Lib.BytesIn w p1 n xs) (h2 : Lib.BytesIn w p2 m ys) :
    Calls Try.prog 32 #[.slice p1 n c, .slice p2 m d] w fun e w' => e = .returned (.bool (Lib.bytesOf xs == Lib.bytesOf ys)) ∧ w' = w :=
  Any.bytes_Equal_all Try.bq p1 p2 n c m d xs ys w hx hy h1 h2
theorem bytesIn_grown {w w' : World} (hg : w.grownBy w' none) {p : Option Addr} {n : Nat} {xs : List Int} (h : Lib.BytesIn w p n xs) : Lib.BytesIn w' p n xs := by
  intro hn
  obtain ⟨b, o, rfl, hc⟩ := h hn
  refine ⟨b, o, rfl, fun i hi => ?_⟩
  have hlt := World.block_lt_of_cell? _ _ (hc i hi)
  rw [← hc i hi]
  exact World.cell?_of_block (hg.block b hlt (by simp))
def IsBytes (w : World) (v : Value) (xs : List Int) : Prop := ∃ p c, v = .slice p xs.length c ∧ Lib.BytesIn w p xs.length xs
set_option maxRecDepth 100000 in
theorem count_walk (b : Nat) (ens : Array MapEntry) (clock : Nat) (f : MapEntry → Int) (bv : Value) (body : List Int) (w : World) (hb : w.heap[b]? = some (.map ens clock)) (hB : Born ens clock) (hbv : IsBytes w bv body)
    (hv : ∀ e ∈ ens.toList, ∃ xs, IsBytes w e.val xs ∧ f e = if (Lib.bytesOf xs == Lib.bytesOf body) = true then 1 else 0) (hn : ∀ e ∈ ens.toList, 0 ≤ f e) (ht : (ens.toList.map f).sum ≤ 1152921504606846976) :
    Calls Try.prog 31 #[.map (some b), bv] w fun e w' => e = .returned (.int .i64 (ens.toList.map f).sum) ∧ w.grownBy w' none := by
  obtain ⟨bp, bc, rfl, hbb⟩ := hbv
  go_enter Try.func31, Try.ntmps31
  go_wp2_with (first
    | (at_range; refine wpList_range_it _ rfl _ 74 rfl 3 36 Try.underlying74 b ens clock rfl hb ?_; intro w0 hrg0 hg0 hs0)
    | go_in)
  go_frame
  go_loopw [5] (fun v wr => ∃ seen, IterAt wr b w.heap.size ens clock seen ∧ v = .int .i64 ((ens.toList.map f).sum - leftSum f ens seen) ∧ w.grownBy wr none)
    (fun _ wr => match wr.heap[w.heap.size]? with | some (.mapIter _ _ seen _) => (leftOf ens seen).size | _ => 0)
  case atStart => exact ⟨#[], hrg0, by rw [left_start]; simp, hg0⟩
  case round =>
    obtain ⟨seen, hrg, rfl, hgw⟩ := hrel
    have hμ : ∀ {wr : World} {seen : Array Nat}, IterAt wr b w.heap.size ens clock seen → (match wr.heap[w.heap.size]? with | some (.mapIter _ _ seen _) => (leftOf ens seen).size | _ => 0) = (leftOf ens seen).size := by
      intro wr seen h
      obtain ⟨_, c0, h2, _⟩ := h
      rw [h2]
    go_wp2_with (first
      | (at_next; refine wpList_next_it _ rfl _ rfl b w.heap.size ens clock seen hB rfl hrg ?_ ?_)
      | go_in)
    · intro hl0
      go_wp2
      go_ret
      refine ⟨?_, hgw⟩
      rw [left_end f (by rw [hl0]; rfl), Int.sub_zero]
      rfl
    · intro e w1 he hel hrg1 hg1 hs1 hen
      obtain ⟨xs, ⟨xp, xc, hev, hxb⟩, hfe⟩ := hv e (by simpa using he)
      rw [hev] at hen ⊢
      obtain ⟨hs, hlt⟩ := left_next f hB (by simpa using hel)
      have hle := left_bounds f (seen.push e.born) hn
      have hle0 := left_bounds f seen hn
      have hgw1 := hgw.andThen hg1 (fun j hj => by cases hj; exact Or.inl (Nat.le_refl _))
      have hbe := bequal xp bp _ xc _ bc xs body w1 rfl rfl (bytesIn_grown hgw1 hxb) (bytesIn_grown hgw1 hbb)
      go_wp2_with (first
        | (go_at_call 32; refine hbe.mono ?_; rintro e2 w2 ⟨rfl, rfl⟩)
        | go_in)
      · rename_i hcmp
        rw [if_pos hcmp] at hfe
        refine ⟨⟨_, hrg1, ?_, hgw1⟩, ?_⟩
        · rw [hs]
          congr 1
          omega
        · rw [hμ hrg1, hμ hrg]
          exact hlt
      · rename_i hcmp
        rw [if_neg (by rw [hcmp]; decide)] at hfe
        refine ⟨⟨_, hrg1, ?_, hgw1⟩, ?_⟩
        · rw [hs]
          congr 1
          omega
        · rw [hμ hrg1, hμ hrg]
          exact hlt
theorem RR.grown7 {D : Dom} {M : Mem} {w0 : World} {σ : Abs.Loc} {ν : Nat → Value} {S : St D.τ} {w w' : World} (hR : RR D M w0 σ ν S w) (hg : w.grownBy w' none) : RR D M w0 σ ν S w' := by
  refine hR.step ⟨fun _ h => h, fun _ _ => rfl, fun _ _ => rfl, rfl, rfl, ⟨rfl, rfl⟩, Loc.le_refl σ⟩ (fun _ => False) (fun _ h => h.elim) (fun b _ => Or.inl ⟨rfl, fun g h => ?_⟩) (fun _ _ _ h => h.elim) (fun _ _ h => h.elim) ?_ rfl (hR.zk_grown hg (fun g e => by cases e)) (fun _ _ h => h.elim) (fun b g _ h _ => hR.zd b g h) (fun g h => Or.inl h)
  · exact hg.block g (blk_lt hR h) (by simp)
  · exact hR.kept.trans ⟨hg.os, hg.tape, hg.output, hg.size, fun k hk _ => hg.block k hk (by simp)⟩
def cntF (ee : List (Rec × Ob)) (bd : List Int) : Int := (ee.map fun e => if recW e.2.r 0 = bd then (1 : Int) else 0).sum
def NotesOK (ee : List (Rec × Ob)) : Prop := ee.length ≤ 1000000 ∧ ∀ e ∈ ee, InB (recW e.2.r 0)
theorem bytesOf_eq {l m : List Int} (hl : InB l) (hm : InB m) : (Lib.bytesOf l == Lib.bytesOf m) = decide (l = m) := by
  by_cases h : l = m
  · rw [h, beq_self_eq_true, decide_eq_true rfl]
  · rw [decide_eq_false h]
    refine beq_eq_false_iff_ne.2 fun e => h ?_
    have back : ∀ {l : List Int}, InB l → (Lib.bytesOf l).map (fun b : UInt8 => (b.toNat : Int)) = l := fun {l} hl => by
      unfold Lib.bytesOf
      rw [List.map_map]
      conv => rhs; rw [← List.map_id l]
      refine List.map_congr_left fun a ha => ?_
      obtain ⟨h1, h2⟩ := hl a ha
      show ((UInt8.ofNat a.toNat).toNat : Int) = a
      rw [UInt8.toNat_ofNat', Nat.mod_eq_of_lt (by omega)]
      omega
    rw [← back hl, ← back hm, e]
theorem cnt_le (ee : List (Rec × Ob)) (bd : List Int) : 0 ≤ cntF ee bd ∧ cntF ee bd ≤ ee.length := by
  unfold cntF
  induction ee with
  | nil => exact ⟨Int.le_refl _, Int.le_refl _⟩
  | cons e ee ih =>
    rw [List.map_cons, List.sum_cons, List.length_cons]
    split <;> omega
theorem sl_bytes {M : Nat → Prop} {W w : World} {l : List Int} {v : Value} (h : SlRel M W .u8 l v) (hk : ∀ g, ¬ M g → g < W.heap.size → w.heap[g]? = W.heap[g]?) : IsBytes w v l := by
  obtain ⟨ao, cap, rfl, _, _, _, h4⟩ := h
  refine ⟨ao, cap, rfl, fun hn => ?_⟩
  obtain ⟨b, off, e1, e2, e3⟩ := h4 0 hn
  refine ⟨b, off, e1, fun i hi => ?_⟩
  obtain ⟨b', off', f1, f2, f3⟩ := h4 i hi
  rw [e1] at f1
  cases f1
  rw [← f3]
  exact World.cell?_of_block (hk b f2 (World.block_lt_of_cell? _ _ f3))
theorem rr_bytes {M : Mem} {w0 : World} {σ : Abs.Loc} {ν : Nat → Value} {S : St DB.τ} {w : World} (hR : RR DB M w0 σ ν S w) {l : List Int} {v : Value} (h : SlRel (fun b => ¬ σ.zm b) σ.zw .u8 l v) : IsBytes w v l :=
  sl_bytes h fun g hg _ => (hR.zk g (Classical.not_not.1 hg)).2
theorem isBytes_inj {w : World} {v : Value} {xs ys : List Int} (h : IsBytes w v xs) (k : IsBytes w v ys) : xs = ys := by
  obtain ⟨p, c, rfl, h2⟩ := h
  obtain ⟨p', c', e, k2⟩ := k
  injection e with e1 e2 e3
  subst e1
  refine List.ext_getElem e2 fun i hi1 hi2 => ?_
  obtain ⟨b, o, e4, hc⟩ := h2 (by omega)
  obtain ⟨b', o', e5, kc⟩ := k2 (by omega)
  rw [e4] at e5
  cases e5
  have h5 := hc i hi1
  rw [kc i hi2] at h5
  injection h5 with h5
  injection h5 with _ h5
  rw [List.getD_eq_getElem?_getD, List.getD_eq_getElem?_getD, List.getElem?_eq_getElem hi1, List.getElem?_eq_getElem hi2] at h5
  exact h5.symm
def ctRd : List (BoxSt DB.τ) → List (A0 DB.τ) → Option (List (Rec × Ob) × List Int)
  | [.fam k es none], [.one (.mapr 0), .one (.words .u8 bd)] => bif Nat.beq k 0 then some (es, bd) else none
  | _, _ => none
def countR (bs : List (BoxSt DB.τ)) (xs : List (A0 DB.τ)) : Option (AV DB.τ × List (BoxSt DB.τ) × List Prop) :=
  match ctRd bs xs with
  | some (es, bd) => some (.v (.one (.int .i64 false (cntF es bd))), [], [NotesOK es, InB bd])
  | none => none
theorem fam_notes {M : Mem} {w0 : World} {σ : Abs.Loc} {ν : Nat → Value} {S : St DB.τ} {w : World} (hR : RR DB M w0 σ ν S w) {b : Nat} {es : List (Rec × Ob)} (hb : S.box b = .fam 0 es none) :
    ∃ ens clock, w.heap[σ b]? = some (.map ens clock) ∧ Born ens clock ∧ ens.toList.length = es.length ∧ ∀ (i : Nat) e x, es[i]? = some e → ens.toList[i]? = some x → IsBytes w x.val (recW e.2.r 0) := by
  have hbox := hR.boxes b
  rw [hb] at hbox
  obtain ⟨fd, hfd, vs, Fs, hc, hnd, hlen, _, _, _, hent, _, _⟩ := hbox
  have hfd' : noteF = fd := Option.some.inj hfd
  subst hfd'
  obtain ⟨ens, clock, h1, h2, h3, h4, h5⟩ := hc
  have hl : ens.toList.length = es.length := by rw [hlen, ← h3, List.length_map]
  refine ⟨ens, clock, h1, h4, hl, fun i e x hi hx => ?_⟩
  have hv : vs[i]? = some x.val := by rw [← h3, List.getElem?_map, hx]; rfl
  obtain ⟨k, ob⟩ := e
  rcases hent i k ob x.val hi hv with ⟨ps, hout, _⟩ | ⟨_, σ', ν', hz1, hz2, hval, _⟩
  · cases hout
  · obtain ⟨_, c1, c2, hc, ⟨v, rfl, hS⟩, rfl⟩ := hval
    simp only [List.append_nil, List.cons.injEq, and_true] at hc
    subst hc
    have hS' : SlRel (fun b => ¬ σ.zm b) σ.zw .u8 (recW ob.r 0) x.val := by
      have := hS
      simp only [ienv] at this
      rw [hz1, hz2] at this
      exact this
    exact rr_bytes hR hS'
theorem count_ok : OpOK Try.prog DB 31 (withNew countR) := by
  intro bs xs r bs' ps hF hps w σ ν vs hR hx
  unfold withNew countR at hF
  split at hF
  · rename_i r0 ns ps0 hF0
    split at hF0
    · rename_i es bd hrd
      simp only [Option.some.injEq, Prod.mk.injEq] at hF0 hF
      obtain ⟨rfl, rfl, rfl⟩ := hF0
      obtain ⟨rfl, rfl, rfl⟩ := hF
      have hn : NotesOK es := hps (NotesOK es) (by simp)
      have hb : InB bd := hps (InB bd) (by simp)
      unfold ctRd at hrd
      split at hrd
      · rename_i k es' bd'
        cases hk : Nat.beq k 0 <;> simp only [hk, cond_true, cond_false] at hrd
        · cases hrd
        obtain rfl := Nat.eq_of_beq_eq_true hk
        simp only [Option.some.injEq, Prod.mk.injEq] at hrd
        obtain ⟨rfl, rfl⟩ := hrd
        obtain ⟨v1, us, rfl, ⟨_, _, hv1⟩, v2, us2, rfl, ⟨_, v3, hv3, M, W, hB, hS⟩, rfl⟩ := hx
        simp only [List.cons.injEq, and_true] at hv1 hv3
        subst hv1 hv3
        obtain ⟨ens, clock, h1, h2, h3, h4⟩ := fam_notes hR (b := 0) rfl
        have hbv : IsBytes w v2 bd' := by
          rcases hB with ⟨rfl, rfl⟩ | ⟨rfl, rfl⟩
          · exact sl_bytes hS fun g _ _ => rfl
          · exact rr_bytes hR hS
        classical
        let f : MapEntry → Int := fun e => if ∃ xs, IsBytes w e.val xs ∧ (Lib.bytesOf xs == Lib.bytesOf bd') = true then 1 else 0
        have hf : ∀ e xs, IsBytes w e.val xs → f e = if (Lib.bytesOf xs == Lib.bytesOf bd') = true then 1 else 0 := fun e xs hxs => by
          by_cases hc : (Lib.bytesOf xs == Lib.bytesOf bd') = true
          · rw [if_pos hc]
            exact if_pos ⟨xs, hxs, hc⟩
          · rw [if_neg hc]
            refine if_neg ?_
            rintro ⟨ys, hys, hc'⟩
            rw [isBytes_inj hxs hys] at hc
            exact hc hc'
        have hat : ∀ i, i < es'.length → ∃ x, ens.toList[i]? = some x ∧ IsBytes w x.val (recW (es'.getD i ([], .node [] [])).2.r 0) := fun i hi => by
          refine ⟨ens.toList[i]'(by omega), List.getElem?_eq_getElem (by omega), ?_⟩
          refine h4 i _ _ ?_ (List.getElem?_eq_getElem (by omega))
          rw [List.getD_eq_getElem?_getD, List.getElem?_eq_getElem hi]
          rfl
        have hmap : ens.toList.map f = es'.map fun e => if recW e.2.r 0 = bd' then (1 : Int) else 0 := by
          refine List.ext_getElem (by simpa using h3) fun i hi1 hi2 => ?_
          simp only [List.length_map] at hi1 hi2
          rw [List.getElem_map, List.getElem_map]
          have hx := h4 i es'[i] ens.toList[i] (List.getElem?_eq_getElem hi2) (List.getElem?_eq_getElem hi1)
          rw [hf _ _ hx, bytesOf_eq (hn.2 _ (List.getElem_mem hi2)) hb]
          by_cases hc : recW es'[i].2.r 0 = bd'
          · rw [if_pos hc, if_pos (decide_eq_true hc)]
          · rw [if_neg hc, if_neg (by rw [decide_eq_false hc]; decide)]
        have hsum : (ens.toList.map f).sum = cntF es' bd' := by rw [hmap]; rfl
        have hle := cnt_le es' bd'
        have hlen := hn.1
        refine ⟨_, _, enters_of Try.func31 (by kernel_rfl) rfl _ w, ?_⟩
        refine (count_walk (σ 0) ens clock f v2 bd' w h1 h2 hbv (fun e he => ?_) (fun e he => ?_) (by rw [hsum]; omega)).mono ?_
        · obtain ⟨i, hi, rfl⟩ := List.getElem_of_mem he
          have hx := h4 i (es'[i]'(by omega)) ens.toList[i] (List.getElem?_eq_getElem (by omega)) (List.getElem?_eq_getElem hi)
          exact ⟨_, hx, hf _ _ hx⟩
        · show 0 ≤ (if _ then (1 : Int) else 0)
          split <;> decide
        · rintro en w' ⟨rfl, hg⟩
          refine ⟨_, rfl, σ, ν, RR.grown7 hR hg, ?_⟩
          rw [hsum]
          exact ⟨rfl, rfl⟩
      · cases hrd
    · cases hF0
  · cases hF
end Go.Num
namespace Go.Num
open Go.Abs Go.Proofs Go.Shelf Go.RowKit Go.MapKept
theorem keyOK_int {r : Rec} (h : keyOK [.int .i64] r = true) : ∃ n, r = [.i n] := by
  match r, h with
  | [.i n], _ => exact ⟨n, rfl⟩
theorem keyOK_two {r : Rec} (h : keyOK [.int .i64, .int .i64] r = true) : ∃ a b, r = [.i a, .i b] := by
  match r, h with
  | [.i a, .i b], _ => exact ⟨a, b, rfl⟩
theorem findNow_int (s : Int) : ∀ (ens : List MapEntry) (ks : List Rec) (i : Nat), ens.map (·.key) = ks.map (keyV false [.int .i64]) → (∀ k ∈ ks, keyOK [.int .i64] k = true) →
    Instr.findNow (.int .i64) (.int .i64 s) ens i = some (match ks.findIdx? (· == [Fd.i s]) with | some j => (ens[j]?).map fun e => (i + j, e.val) | none => none)
  | [], [], _, _, _ => rfl
  | [], _ :: _, _, h, _ => by cases h
  | _ :: _, [], _, h, _ => by cases h
  | e :: ens, k :: ks, i, h, hk => by
    obtain ⟨u, rfl⟩ := keyOK_int (hk k (List.mem_cons_self ..))
    simp only [List.map_cons, List.cons.injEq] at h
    have he : e.key = .int .i64 u := h.1
    have ih := findNow_int s ens ks (i + 1) h.2 (fun k hk' => hk k (List.mem_cons_of_mem _ hk'))
    unfold Instr.findNow
    rw [he]
    have hs : Instr.sameNow (.int .i64) (.int .i64 s) (.int .i64 u) = some (s == u) := rfl
    rw [hs, List.findIdx?_cons]
    by_cases hsu : s = u
    · subst hsu
      have e1 : (s == s) = true := beq_self_eq_true s
      have e2 : (([Fd.i s] : Rec) == [Fd.i s]) = true := beq_self_eq_true _
      rw [e1, e2]
      rfl
    · have e1 : (s == u) = false := beq_eq_false_iff_ne.2 hsu
      have e2 : (([Fd.i u] : Rec) == [Fd.i s]) = false := beq_eq_false_iff_ne.2 (fun h => by cases h; exact hsu rfl)
      rw [e1, e2]
      simp only [ih, Bool.false_eq_true, if_false]
      cases List.findIdx? (fun x => x == [Fd.i s]) ks with
      | none => rfl
      | some j =>
        simp only [Option.map_some, List.getElem?_cons_succ]
        rw [show i + 1 + j = i + (j + 1) from by omega]
theorem keyT_int : KeyT Try.prog 3 false [.int .i64] := by
  intro w key hkey
  obtain ⟨s, rfl⟩ := keyOK_int hkey
  refine ⟨fun b => run_checkKey Try.underlying3 (d := .int .i64) (k := .int .i64 s) rfl b 9999, fun ens ks h hk => ?_, fun k' hk' he => ?_⟩
  · refine run_findKey Try.underlying3 ?_
    have := findNow_int s ens ks 0 h hk
    simp only [Nat.zero_add] at this
    exact this
  · rw [he]
    exact run_keyThatStays (d := .int .i64) (k := .int .i64 s) rfl
theorem eqSub : EqT Try.prog 81 := eqT_of (n := 2) (by kernel_rfl) (by kernel_rfl) (by kernel_rfl) (by kernel_rfl)
def subV (a b : Int) : Value := .agg #[.int .i64 a, .int .i64 b]
theorem eq_sub (a b c d : Int) (w : World) : (Op.equal 81 (subV a b) (subV c d)).run Try.prog w = .ok (a == c && b == d) w := by
  have := (eqSub w [.int .i64 a, .int .i64 b] [.int .i64 c, .int .i64 d] rfl (by kernel_rfl) (fun i u v hu hv => by
    match i with
    | 0 => cases hu; cases hv; exact ⟨_, _, _, rfl, rfl⟩
    | 1 => cases hu; cases hv; exact ⟨_, _, _, rfl, rfl⟩
    | i + 2 => cases hu)).1
  rw [show subV a b = .agg [Value.int .i64 a, .int .i64 b].toArray from rfl, show subV c d = .agg [Value.int .i64 c, .int .i64 d].toArray from rfl, this]
  show Result.ok ((a == c) && ((b == d) && true)) w = _
  rw [Bool.and_true]
theorem findAsking_sub (a b : Int) (w : World) : ∀ (ens : List MapEntry) (ks : List Rec) (i : Nat), ens.map (·.key) = ks.map (keyV true [.int .i64, .int .i64]) → (∀ k ∈ ks, keyOK [.int .i64, .int .i64] k = true) →
    (Instr.findAsking 81 (subV a b) ens i).run Try.prog w = .ok (match ks.findIdx? (· == [Fd.i a, Fd.i b]) with | some j => (ens[j]?).map fun e => (i + j, e.val) | none => none) w
  | [], [], _, _, _ => rfl
  | [], _ :: _, _, h, _ => by cases h
  | _ :: _, [], _, h, _ => by cases h
  | e :: ens, k :: ks, i, h, hk => by
    obtain ⟨c, d, rfl⟩ := keyOK_two (hk k (List.mem_cons_self ..))
    simp only [List.map_cons, List.cons.injEq] at h
    have he : e.key = subV c d := h.1
    have ih := findAsking_sub a b w ens ks (i + 1) h.2 (fun k hk' => hk k (List.mem_cons_of_mem _ hk'))
    unfold Instr.findAsking
    rw [he]
    simp only [Sem.run_bind, eq_sub, Result.andThen]
    rw [List.findIdx?_cons]
    by_cases hab : a = c ∧ b = d
    · obtain ⟨rfl, rfl⟩ := hab
      have e1 : (a == a && b == b) = true := by simp
      have e2 : (([Fd.i a, Fd.i b] : Rec) == [Fd.i a, Fd.i b]) = true := beq_self_eq_true _
      rw [e1, e2]
      rfl
    · have e1 : (a == c && b == d) = false := by
        rw [Bool.and_eq_false_iff]
        by_cases h1 : a = c
        · exact Or.inr (beq_eq_false_iff_ne.2 fun h2 => hab ⟨h1, h2⟩)
        · exact Or.inl (beq_eq_false_iff_ne.2 h1)
      have e2 : (([Fd.i c, Fd.i d] : Rec) == [Fd.i a, Fd.i b]) = false := beq_eq_false_iff_ne.2 (fun h => by cases h; exact hab ⟨rfl, rfl⟩)
      rw [e1, e2]
      simp only [ih, Bool.false_eq_true, if_false]
      cases List.findIdx? (fun x => x == [Fd.i a, Fd.i b]) ks with
      | none => rfl
      | some j =>
        simp only [Option.map_some, List.getElem?_cons_succ]
        rw [show i + 1 + j = i + (j + 1) from by omega]
theorem keyT_sub : KeyT Try.prog 81 true [.int .i64, .int .i64] := by
  intro w key hkey
  obtain ⟨a, b, rfl⟩ := keyOK_two hkey
  refine ⟨fun e => ?_, fun ens ks h hk => ?_, fun k' hk' he => ?_⟩
  · show (Instr.checkKey e 10000 81 (subV a b)).run Try.prog w = .ok () w
    have hp : ∀ (c1 c2 c3 : List Value) (u : Value), c2 = [u] → (part 3 (c1 ++ (c2 ++ c3)).toArray c1.length).run Try.prog w = .ok u w := fun c1 c2 c3 u hu => by
      have := part_val (P := Try.prog) (t := 3) (c1 := c1) (c2 := c2) (c3 := c3) (off := c1.length) (n := 1) (w := w) (by kernel_rfl) rfl (by rw [hu]; rfl) (fun _ => rfl)
      rw [this, hu]
      rfl
    have hk : ∀ (n : Nat) (x : Int), (Instr.checkKey e (n + 1) 3 (.int .i64 x)).run Try.prog w = .ok () w := fun n x => run_checkKey Try.underlying3 (d := .int .i64) (k := .int .i64 x) rfl e n
    unfold Instr.checkKey
    simp only [Sem.run_bind, run_underlying Try.underlying81, Result.andThen]
    have h0 : (part 3 #[.int .i64 a, .int .i64 b] 0).run Try.prog w = .ok (.int .i64 a) w := hp [] [.int .i64 a] [.int .i64 b] _ rfl
    have h1 : (part 3 #[.int .i64 a, .int .i64 b] 1).run Try.prog w = .ok (.int .i64 b) w := hp [.int .i64 a] [.int .i64 b] [] _ rfl
    unfold subV
    simp [h0, h1, hk, Result.andThen]
  · show (Instr.findKey 81 (subV a b) ens).run Try.prog w = _
    have h1 := findAsking_sub a b w ens ks 0 h hk
    simp only [Nat.zero_add] at h1
    refine Eq.trans ?_ h1
    unfold Instr.findKey
    simp only [Sem.run_bind, run_underlying Try.underlying81, Result.andThen]
    cases ens with
    | nil => rfl
    | cons e ens =>
      cases ks with
      | nil => cases h
      | cons k ks =>
        obtain ⟨c, d, rfl⟩ := keyOK_two (hk k (List.mem_cons_self ..))
        simp only [List.map_cons, List.cons.injEq] at h
        have he : e.key = subV c d := h.1
        have hn : ∀ fs, Instr.findNow (.struct fs) (subV a b) (e :: ens) 0 = none := fun fs => by
          unfold Instr.findNow
          rw [he]
          rfl
        rw [hn]
  · rw [he]
    show (Instr.keyThatStays (subV a b) (subV a b)).run Try.prog w = .ok (subV a b) w
    have hs : Instr.sameBits 10000 (subV a b) (subV a b) = true := by
      unfold subV
      simp [Instr.sameBits]
    unfold Instr.keyThatStays
    rw [if_pos hs]
    rfl
end Go.Num
namespace Go.Num
open Go.Abs Go.Proofs Go.Shelf Go.RowKit
structure MsT where
  k : Int
  ep : Int
  fr : Int
  wh : Int
  tp : Int
  rd : Int
  bd : List Int
def MsT.a (m : MsT) : A0 DB.τ := .agg [.int .i64 false m.k, .int .i64 false m.ep, .int .i64 false m.fr, .int .i64 false m.wh, .int .i64 false m.tp, .int .i64 false m.rd, .words .u8 m.bd]
def MsT.key (m : MsT) : Rec := [.i m.tp, .i m.wh]
def mSh : List FK := [.int .i64, .int .i64, .int .i64, .int .i64, .int .i64, .int .i64, .words .u8]
def tSh : List FK := [.int .i64, .int .i64, .words .u8]
def MsT.r (m : MsT) : Rec := [.i m.k, .i m.ep, .i m.fr, .i m.wh, .i m.tp, .i m.rd, .w m.bd]
structure TkT where
  key : Rec
  b : Bool
  r : Bool
  t : Bool
  ee : List (Rec × Ob)
  rr : List (Rec × Ob)
def TkT.ob (t : TkT) : Ob := tkOb t.b t.r t.t t.ee t.rr
def hubX (me : Int) (mb : List Int) (f : Nat) : BoxSt DB.τ := .fixed 65 [.int .i64 false me, .pw .i64 mb, .mapr f]
def tkX (t : TkT) (e r : Nat) : BoxSt DB.τ := .fixed 76 [.bool false t.b, .bool false t.r, .bool false t.t, .mapr e, .mapr r]
def ansX (m t : Nat) : BoxSt DB.τ := .fixed 67 [.own m, .own t]
def msX (ms : List Rec) : BoxSt DB.τ := .dyn 38 (.lrs mSh ms)
def tsX (ts : List Rec) : BoxSt DB.τ := .dyn 56 (.lrs tSh ts)
def hbN (me : Int) (mb : List Int) (es : List (Rec × Ob)) : List (BoxSt DB.τ) := [hubX me mb 1, .fam 1 es none]
def hbT (me : Int) (mb : List Int) (es : List (Rec × Ob)) (t : TkT) : List (BoxSt DB.τ) := [hubX me mb 1, .fam 1 es (some (t.key, [.ref 2 0])), tkX t 3 4, .fam 0 t.ee none, .fam 0 t.rr none]
theorem id_n (me : Int) (mb : List Int) (es : List (Rec × Ob))
 (h1 : (((((List.length mb) : Nat) : Int) == (0 : Int)) = false)) :
 ∃ ps, runO Try.prog DB [] 100 Try.f22 (hbN me mb es, [.one (.ref 0 0)]) [.is false] (.v (.one (.bool true false))) (hbN me mb es) = some ps ∧ AllQ ps := ⟨_, by kernel_rfl, qc h1 (qc (er me) (qc (er mb) (qc (er es) (qn))))⟩
theorem id_t (me : Int) (mb : List Int) (es : List (Rec × Ob)) (t : TkT)
 (h1 : (((((List.length mb) : Nat) : Int) == (0 : Int)) = false)) :
 ∃ ps, runO Try.prog DB [] 100 Try.f22 (hbT me mb es t, [.one (.ref 0 0)]) [.is false] (.v (.one (.bool true false))) (hbT me mb es t) = some ps ∧ AllQ ps := ⟨_, by kernel_rfl, qc h1 (qc (er me) (qc (er mb) (qc (er ((t).1)) (qc (er es) (qc (er ((t).2)) (qc (er ((t).3)) (qc (er ((t).4)) (qc (er ((t).5)) (qc (er ((t).6)) (qn))))))))))⟩
def hbBs (me : Int) (mb : List Int) (es : List (Rec × Ob)) : Option TkT → List (BoxSt DB.τ)
  | none => hbN me mb es
  | some t => hbT me mb es t
abbrev HbT := Int × List Int × List (Rec × Ob) × Option TkT
def hbRd : List (BoxSt DB.τ) → Option HbT
  | .fixed t1 ps :: .fam k1 es out :: bs => match ps with
    | [.int .i64 _ me, .pw .i64 mb, .mapr 1] => bif Nat.beq t1 65 && Nat.beq k1 1 then match out, bs with
      | none, [] => some (me, mb, es, none)
      | some (key, [.ref 2 0]), [.fixed t2 qs, .fam k3 ee none, .fam k4 rr none] => match qs with
        | [.bool _ b, .bool _ r, .bool _ t, .mapr 3, .mapr 4] => bif Nat.beq t2 76 && (Nat.beq k3 0 && Nat.beq k4 0) then some (me, mb, es, some ⟨key, b, r, t, ee, rr⟩) else none
        | _ => none
      | _, _ => none
      else none
    | _ => none
  | _ => none
def hbX (h : HbT) : List (BoxSt DB.τ) := hbBs h.1 h.2.1 h.2.2.1 h.2.2.2
def idRd (bs : List (BoxSt DB.τ)) : List (A0 DB.τ) → Option HbT
  | [.one (.ref 0 0)] => hbRd bs
  | _ => none
noncomputable def idleQ := mkF DB Try.f22.ntmps idRd (fun h => (hbX h, [.one (.ref 0 0)])) (fun h => some (.v (.one (.bool true false)), hbX h, [h.2.1 ≠ []]))
theorem idle_ok : OpOK Try.prog DB 22 idleQ := by
  refine opOK_mkG mixed Try.func22 (enters_of Try.func22 (by kernel_rfl) rfl) ?_
  rintro ⟨me, mb, es, x⟩ r' bs' ps h hps
  simp only [Option.some.injEq, Prod.mk.injEq] at h
  obtain ⟨rfl, rfl, rfl⟩ := h
  have hm : mb ≠ [] := hps (mb ≠ []) (by simp)
  have hl : ((mb.length : Int) == 0) = false := beq_eq_false_iff_ne.2 (by have := List.length_pos_iff.2 hm; omega)
  cases x with
  | none => exact ⟨_, _, _, gam_nil, id_n me mb es hl⟩
  | some t => exact ⟨_, _, _, gam_nil, id_t me mb es t hl⟩
noncomputable def gMo : Gam DB := [(22, .op [true] idleQ)]
theorem gMo_ok : GamOK Try.prog DB gMo := gam_op idle_ok gam_nil
def fF (mb : List Int) : Int := ((mb.length : Int) - 1).tdiv 3
theorem mo_n (me : Int) (mb : List Int) (es : List (Rec × Ob)) (f : Int)
 (h1 : (mb ≠ ([] : List (Int))))
 (h2 : (InI64 ((((List.length mb) : Nat) : Int) - (1 : Int))))
 (h3 : ((Go.IntKind.wrap Go.IntKind.i64 (Int.tdiv ((((List.length mb) : Nat) : Int) - (1 : Int)) (3 : Int))) = f)) :
 ∃ ps, runO Try.prog DB gMo 100 Try.f17 (hbN me mb es, [.one (.ref 0 0)]) [] (.v (.one (.int .i64 false f))) (hbN me mb es) = some ps ∧ AllQ ps := ⟨_, by kernel_rfl, qc (er me) (qc (er mb) (qc (er es) (qc h1 (qc h2 (qc (show ((3 : Int) ≠ (0 : Int)) from by decide) (qc h3 (qc (er me) (qc (er mb) (qc (er es) (qn))))))))))⟩
theorem mo_t (me : Int) (mb : List Int) (es : List (Rec × Ob)) (t : TkT) (f : Int)
 (h1 : (mb ≠ ([] : List (Int))))
 (h2 : (InI64 ((((List.length mb) : Nat) : Int) - (1 : Int))))
 (h3 : ((Go.IntKind.wrap Go.IntKind.i64 (Int.tdiv ((((List.length mb) : Nat) : Int) - (1 : Int)) (3 : Int))) = f)) :
 ∃ ps, runO Try.prog DB gMo 100 Try.f17 (hbT me mb es t, [.one (.ref 0 0)]) [] (.v (.one (.int .i64 false f))) (hbT me mb es t) = some ps ∧ AllQ ps := ⟨_, by kernel_rfl, qc (er me) (qc (er mb) (qc (er ((t).1)) (qc (er es) (qc (er ((t).2)) (qc (er ((t).3)) (qc (er ((t).4)) (qc (er ((t).5)) (qc (er ((t).6)) (qc h1 (qc h2 (qc (show ((3 : Int) ≠ (0 : Int)) from by decide) (qc h3 (qc (er me) (qc (er mb) (qc (er ((t).1)) (qc (er es) (qc (er ((t).2)) (qc (er ((t).3)) (qc (er ((t).4)) (qc (er ((t).5)) (qc (er ((t).6)) (qn))))))))))))))))))))))⟩
noncomputable def gCo : Gam DB := [(20, .fn contains7D)]
theorem gCo_ok : GamOK Try.prog DB gCo := gam_cons contains7_ok gam_nil
theorem co_k (me : Int) (mb : List Int) (es : List (Rec × Ob)) (k ep fr wh tp rd : Int) (bd : List Int) (v : Bool)
 (h1 : ((k != (1 : Int)) = true))
 (h2 : ((k != (2 : Int)) = true))
 (h3 : ((k != (3 : Int)) = true))
 (h4 : (false = v)) :
 ∃ ps, runO Try.prog DB gCo 100 Try.f26 (hbN me mb es, [.one (.ref 0 0), (MsT.mk k ep fr wh tp rd bd).a]) [.is true, .is true, .is true] (.v (.one (.bool false v))) (hbN me mb es) = some ps ∧ AllQ ps := ⟨_, by kernel_rfl, qc h1 (qc h2 (qc h3 (qc h4 (qc (er me) (qc (er mb) (qc (er es) (qn)))))))⟩
theorem co_1lo (me : Int) (mb : List Int) (es : List (Rec × Ob)) (k ep fr wh tp rd : Int) (bd : List Int) (v : Bool)
 (h1 : ((k != (1 : Int)) = false))
 (h2 : ((decide (tp < (1 : Int))) = true))
 (h3 : (false = v)) :
 ∃ ps, runO Try.prog DB gCo 100 Try.f26 (hbN me mb es, [.one (.ref 0 0), (MsT.mk k ep fr wh tp rd bd).a]) [.is false, .is true] (.v (.one (.bool false v))) (hbN me mb es) = some ps ∧ AllQ ps := ⟨_, by kernel_rfl, qc h1 (qc h2 (qc h3 (qc (er me) (qc (er mb) (qc (er es) (qn))))))⟩
theorem co_1hi (me : Int) (mb : List Int) (es : List (Rec × Ob)) (k ep fr wh tp rd : Int) (bd : List Int) (v : Bool)
 (h1 : ((k != (1 : Int)) = false))
 (h2 : ((decide (tp < (1 : Int))) = false))
 (h3 : ((decide (tp > (3 : Int))) = true))
 (h4 : (false = v)) :
 ∃ ps, runO Try.prog DB gCo 100 Try.f26 (hbN me mb es, [.one (.ref 0 0), (MsT.mk k ep fr wh tp rd bd).a]) [.is false, .is false, .is true] (.v (.one (.bool false v))) (hbN me mb es) = some ps ∧ AllQ ps := ⟨_, by kernel_rfl, qc h1 (qc h2 (qc h3 (qc h4 (qc (er me) (qc (er mb) (qc (er es) (qn)))))))⟩
theorem co_1len (me : Int) (mb : List Int) (es : List (Rec × Ob)) (k ep fr wh tp rd : Int) (bd : List Int) (v : Bool)
 (h1 : ((k != (1 : Int)) = false))
 (h2 : ((decide (tp < (1 : Int))) = false))
 (h3 : ((decide (tp > (3 : Int))) = false))
 (h4 : ((decide ((((List.length bd) : Nat) : Int) > (4096 : Int))) = true))
 (h5 : (false = v)) :
 ∃ ps, runO Try.prog DB gCo 100 Try.f26 (hbN me mb es, [.one (.ref 0 0), (MsT.mk k ep fr wh tp rd bd).a]) [.is false, .is false, .is false, .is true] (.v (.one (.bool false v))) (hbN me mb es) = some ps ∧ AllQ ps := ⟨_, by kernel_rfl, qc h1 (qc h2 (qc h3 (qc h4 (qc h5 (qc (er me) (qc (er mb) (qc (er es) (qn))))))))⟩
theorem co_1fr (me : Int) (mb : List Int) (es : List (Rec × Ob)) (k ep fr wh tp rd : Int) (bd : List Int) (v : Bool)
 (h1 : ((k != (1 : Int)) = false))
 (h2 : ((decide (tp < (1 : Int))) = false))
 (h3 : ((decide (tp > (3 : Int))) = false))
 (h4 : ((decide ((((List.length bd) : Nat) : Int) > (4096 : Int))) = false))
 (h5 : ((decide ((0 : Int) ≤ (idxF mb fr))) = false))
 (h6 : ((List.length mb) ≤ (1000 : Nat)))
 (h7 : (false = v)) :
 ∃ ps, runO Try.prog DB gCo 100 Try.f26 (hbN me mb es, [.one (.ref 0 0), (MsT.mk k ep fr wh tp rd bd).a]) [.is false, .is false, .is false, .is false, .is false] (.v (.one (.bool false v))) (hbN me mb es) = some ps ∧ AllQ ps := ⟨_, by kernel_rfl, qc h1 (qc h2 (qc h3 (qc h4 (qc h5 (qc h6 (qc h7 (qc (er me) (qc (er mb) (qc (er es) (qn))))))))))⟩
theorem co_1wh (me : Int) (mb : List Int) (es : List (Rec × Ob)) (k ep fr wh tp rd : Int) (bd : List Int) (v : Bool)
 (h1 : ((k != (1 : Int)) = false))
 (h2 : ((decide (tp < (1 : Int))) = false))
 (h3 : ((decide (tp > (3 : Int))) = false))
 (h4 : ((decide ((((List.length bd) : Nat) : Int) > (4096 : Int))) = false))
 (h5 : ((decide ((0 : Int) ≤ (idxF mb fr))) = true))
 (h6 : ((List.length mb) ≤ (1000 : Nat)))
 (h7 : ((decide ((0 : Int) ≤ (idxF mb wh))) = false))
 (h8 : (false = v)) :
 ∃ ps, runO Try.prog DB gCo 100 Try.f26 (hbN me mb es, [.one (.ref 0 0), (MsT.mk k ep fr wh tp rd bd).a]) [.is false, .is false, .is false, .is false, .is true, .is false] (.v (.one (.bool false v))) (hbN me mb es) = some ps ∧ AllQ ps := ⟨_, by kernel_rfl, qc h1 (qc h2 (qc h3 (qc h4 (qc h5 (qc h6 (qc h7 (qc h6 (qc h8 (qc (er me) (qc (er mb) (qc (er es) (qn))))))))))))⟩
theorem co_1 (me : Int) (mb : List Int) (es : List (Rec × Ob)) (k ep fr wh tp rd : Int) (bd : List Int) (v : Bool)
 (h1 : ((k != (1 : Int)) = false))
 (h2 : ((decide (tp < (1 : Int))) = false))
 (h3 : ((decide (tp > (3 : Int))) = false))
 (h4 : ((decide ((((List.length bd) : Nat) : Int) > (4096 : Int))) = false))
 (h5 : ((decide ((0 : Int) ≤ (idxF mb fr))) = true))
 (h6 : ((List.length mb) ≤ (1000 : Nat)))
 (h7 : ((decide ((0 : Int) ≤ (idxF mb wh))) = true))
 (h8 : (true = v)) :
 ∃ ps, runO Try.prog DB gCo 100 Try.f26 (hbN me mb es, [.one (.ref 0 0), (MsT.mk k ep fr wh tp rd bd).a]) [.is false, .is false, .is false, .is false, .is true, .is true] (.v (.one (.bool false v))) (hbN me mb es) = some ps ∧ AllQ ps := ⟨_, by kernel_rfl, qc h1 (qc h2 (qc h3 (qc h4 (qc h5 (qc h6 (qc h7 (qc h6 (qc h8 (qc (er me) (qc (er mb) (qc (er es) (qn))))))))))))⟩
theorem co_2lo (me : Int) (mb : List Int) (es : List (Rec × Ob)) (k ep fr wh tp rd : Int) (bd : List Int) (v : Bool)
 (h1 : ((k != (1 : Int)) = true))
 (h2 : ((k != (2 : Int)) = false))
 (h3 : ((decide (tp < (1 : Int))) = true))
 (h4 : (false = v)) :
 ∃ ps, runO Try.prog DB gCo 100 Try.f26 (hbN me mb es, [.one (.ref 0 0), (MsT.mk k ep fr wh tp rd bd).a]) [.is true, .is false, .is true] (.v (.one (.bool false v))) (hbN me mb es) = some ps ∧ AllQ ps := ⟨_, by kernel_rfl, qc h1 (qc h2 (qc h3 (qc h4 (qc (er me) (qc (er mb) (qc (er es) (qn)))))))⟩
theorem co_2hi (me : Int) (mb : List Int) (es : List (Rec × Ob)) (k ep fr wh tp rd : Int) (bd : List Int) (v : Bool)
 (h1 : ((k != (1 : Int)) = true))
 (h2 : ((k != (2 : Int)) = false))
 (h3 : ((decide (tp < (1 : Int))) = false))
 (h4 : ((decide (tp > (3 : Int))) = true))
 (h5 : (false = v)) :
 ∃ ps, runO Try.prog DB gCo 100 Try.f26 (hbN me mb es, [.one (.ref 0 0), (MsT.mk k ep fr wh tp rd bd).a]) [.is true, .is false, .is false, .is true] (.v (.one (.bool false v))) (hbN me mb es) = some ps ∧ AllQ ps := ⟨_, by kernel_rfl, qc h1 (qc h2 (qc h3 (qc h4 (qc h5 (qc (er me) (qc (er mb) (qc (er es) (qn))))))))⟩
theorem co_2len (me : Int) (mb : List Int) (es : List (Rec × Ob)) (k ep fr wh tp rd : Int) (bd : List Int) (v : Bool)
 (h1 : ((k != (1 : Int)) = true))
 (h2 : ((k != (2 : Int)) = false))
 (h3 : ((decide (tp < (1 : Int))) = false))
 (h4 : ((decide (tp > (3 : Int))) = false))
 (h5 : ((decide ((((List.length bd) : Nat) : Int) > (4096 : Int))) = true))
 (h6 : (false = v)) :
 ∃ ps, runO Try.prog DB gCo 100 Try.f26 (hbN me mb es, [.one (.ref 0 0), (MsT.mk k ep fr wh tp rd bd).a]) [.is true, .is false, .is false, .is false, .is true] (.v (.one (.bool false v))) (hbN me mb es) = some ps ∧ AllQ ps := ⟨_, by kernel_rfl, qc h1 (qc h2 (qc h3 (qc h4 (qc h5 (qc h6 (qc (er me) (qc (er mb) (qc (er es) (qn)))))))))⟩
theorem co_2fr (me : Int) (mb : List Int) (es : List (Rec × Ob)) (k ep fr wh tp rd : Int) (bd : List Int) (v : Bool)
 (h1 : ((k != (1 : Int)) = true))
 (h2 : ((k != (2 : Int)) = false))
 (h3 : ((decide (tp < (1 : Int))) = false))
 (h4 : ((decide (tp > (3 : Int))) = false))
 (h5 : ((decide ((((List.length bd) : Nat) : Int) > (4096 : Int))) = false))
 (h6 : ((decide ((0 : Int) ≤ (idxF mb fr))) = false))
 (h7 : ((List.length mb) ≤ (1000 : Nat)))
 (h8 : (false = v)) :
 ∃ ps, runO Try.prog DB gCo 100 Try.f26 (hbN me mb es, [.one (.ref 0 0), (MsT.mk k ep fr wh tp rd bd).a]) [.is true, .is false, .is false, .is false, .is false, .is false] (.v (.one (.bool false v))) (hbN me mb es) = some ps ∧ AllQ ps := ⟨_, by kernel_rfl, qc h1 (qc h2 (qc h3 (qc h4 (qc h5 (qc h6 (qc h7 (qc h8 (qc (er me) (qc (er mb) (qc (er es) (qn)))))))))))⟩
theorem co_2wh (me : Int) (mb : List Int) (es : List (Rec × Ob)) (k ep fr wh tp rd : Int) (bd : List Int) (v : Bool)
 (h1 : ((k != (1 : Int)) = true))
 (h2 : ((k != (2 : Int)) = false))
 (h3 : ((decide (tp < (1 : Int))) = false))
 (h4 : ((decide (tp > (3 : Int))) = false))
 (h5 : ((decide ((((List.length bd) : Nat) : Int) > (4096 : Int))) = false))
 (h6 : ((decide ((0 : Int) ≤ (idxF mb fr))) = true))
 (h7 : ((List.length mb) ≤ (1000 : Nat)))
 (h8 : ((decide ((0 : Int) ≤ (idxF mb wh))) = false))
 (h9 : (false = v)) :
 ∃ ps, runO Try.prog DB gCo 100 Try.f26 (hbN me mb es, [.one (.ref 0 0), (MsT.mk k ep fr wh tp rd bd).a]) [.is true, .is false, .is false, .is false, .is false, .is true, .is false] (.v (.one (.bool false v))) (hbN me mb es) = some ps ∧ AllQ ps := ⟨_, by kernel_rfl, qc h1 (qc h2 (qc h3 (qc h4 (qc h5 (qc h6 (qc h7 (qc h8 (qc h7 (qc h9 (qc (er me) (qc (er mb) (qc (er es) (qn)))))))))))))⟩
theorem co_2 (me : Int) (mb : List Int) (es : List (Rec × Ob)) (k ep fr wh tp rd : Int) (bd : List Int) (v : Bool)
 (h1 : ((k != (1 : Int)) = true))
 (h2 : ((k != (2 : Int)) = false))
 (h3 : ((decide (tp < (1 : Int))) = false))
 (h4 : ((decide (tp > (3 : Int))) = false))
 (h5 : ((decide ((((List.length bd) : Nat) : Int) > (4096 : Int))) = false))
 (h6 : ((decide ((0 : Int) ≤ (idxF mb fr))) = true))
 (h7 : ((List.length mb) ≤ (1000 : Nat)))
 (h8 : ((decide ((0 : Int) ≤ (idxF mb wh))) = true))
 (h9 : (true = v)) :
 ∃ ps, runO Try.prog DB gCo 100 Try.f26 (hbN me mb es, [.one (.ref 0 0), (MsT.mk k ep fr wh tp rd bd).a]) [.is true, .is false, .is false, .is false, .is false, .is true, .is true] (.v (.one (.bool false v))) (hbN me mb es) = some ps ∧ AllQ ps := ⟨_, by kernel_rfl, qc h1 (qc h2 (qc h3 (qc h4 (qc h5 (qc h6 (qc h7 (qc h8 (qc h7 (qc h9 (qc (er me) (qc (er mb) (qc (er es) (qn)))))))))))))⟩
theorem co_t2 (me : Int) (mb : List Int) (es : List (Rec × Ob)) (k ep fr wh tp rd : Int) (bd : List Int) (t : TkT)
 (h1 : ((k != (1 : Int)) = true))
 (h2 : ((k != (2 : Int)) = false))
 (h3 : ((decide (tp < (1 : Int))) = false))
 (h4 : ((decide (tp > (3 : Int))) = false))
 (h5 : ((decide ((((List.length bd) : Nat) : Int) > (4096 : Int))) = false))
 (h6 : ((decide ((0 : Int) ≤ (idxF mb fr))) = true))
 (h7 : ((List.length mb) ≤ (1000 : Nat)))
 (h8 : ((decide ((0 : Int) ≤ (idxF mb wh))) = true)) :
 ∃ ps, runO Try.prog DB gCo 100 Try.f26 (hbT me mb es t, [.one (.ref 0 0), (MsT.mk k ep fr wh tp rd bd).a]) [.is true, .is false, .is false, .is false, .is false, .is true, .is true] (.v (.one (.bool true true))) (hbT me mb es t) = some ps ∧ AllQ ps := ⟨_, by kernel_rfl, qc h1 (qc h2 (qc h3 (qc h4 (qc h5 (qc h6 (qc h7 (qc h8 (qc h7 (qc (er me) (qc (er mb) (qc (er ((t).1)) (qc (er es) (qc (er ((t).2)) (qc (er ((t).3)) (qc (er ((t).4)) (qc (er ((t).5)) (qc (er ((t).6)) (qn))))))))))))))))))⟩
theorem co_3lo (me : Int) (mb : List Int) (es : List (Rec × Ob)) (k ep fr wh tp rd : Int) (bd : List Int) (v : Bool)
 (h1 : ((k != (1 : Int)) = true))
 (h2 : ((k != (2 : Int)) = true))
 (h3 : ((k != (3 : Int)) = false))
 (h4 : ((decide (tp < (1 : Int))) = true))
 (h5 : (false = v)) :
 ∃ ps, runO Try.prog DB gCo 100 Try.f26 (hbN me mb es, [.one (.ref 0 0), (MsT.mk k ep fr wh tp rd bd).a]) [.is true, .is true, .is false, .is true] (.v (.one (.bool false v))) (hbN me mb es) = some ps ∧ AllQ ps := ⟨_, by kernel_rfl, qc h1 (qc h2 (qc h3 (qc h4 (qc h5 (qc (er me) (qc (er mb) (qc (er es) (qn))))))))⟩
theorem co_3hi (me : Int) (mb : List Int) (es : List (Rec × Ob)) (k ep fr wh tp rd : Int) (bd : List Int) (v : Bool)
 (h1 : ((k != (1 : Int)) = true))
 (h2 : ((k != (2 : Int)) = true))
 (h3 : ((k != (3 : Int)) = false))
 (h4 : ((decide (tp < (1 : Int))) = false))
 (h5 : ((decide (tp > (3 : Int))) = true))
 (h6 : (false = v)) :
 ∃ ps, runO Try.prog DB gCo 100 Try.f26 (hbN me mb es, [.one (.ref 0 0), (MsT.mk k ep fr wh tp rd bd).a]) [.is true, .is true, .is false, .is false, .is true] (.v (.one (.bool false v))) (hbN me mb es) = some ps ∧ AllQ ps := ⟨_, by kernel_rfl, qc h1 (qc h2 (qc h3 (qc h4 (qc h5 (qc h6 (qc (er me) (qc (er mb) (qc (er es) (qn)))))))))⟩
theorem co_3len (me : Int) (mb : List Int) (es : List (Rec × Ob)) (k ep fr wh tp rd : Int) (bd : List Int) (v : Bool)
 (h1 : ((k != (1 : Int)) = true))
 (h2 : ((k != (2 : Int)) = true))
 (h3 : ((k != (3 : Int)) = false))
 (h4 : ((decide (tp < (1 : Int))) = false))
 (h5 : ((decide (tp > (3 : Int))) = false))
 (h6 : ((decide ((((List.length bd) : Nat) : Int) > (4096 : Int))) = true))
 (h7 : (false = v)) :
 ∃ ps, runO Try.prog DB gCo 100 Try.f26 (hbN me mb es, [.one (.ref 0 0), (MsT.mk k ep fr wh tp rd bd).a]) [.is true, .is true, .is false, .is false, .is false, .is true] (.v (.one (.bool false v))) (hbN me mb es) = some ps ∧ AllQ ps := ⟨_, by kernel_rfl, qc h1 (qc h2 (qc h3 (qc h4 (qc h5 (qc h6 (qc h7 (qc (er me) (qc (er mb) (qc (er es) (qn))))))))))⟩
theorem co_3fr (me : Int) (mb : List Int) (es : List (Rec × Ob)) (k ep fr wh tp rd : Int) (bd : List Int) (v : Bool)
 (h1 : ((k != (1 : Int)) = true))
 (h2 : ((k != (2 : Int)) = true))
 (h3 : ((k != (3 : Int)) = false))
 (h4 : ((decide (tp < (1 : Int))) = false))
 (h5 : ((decide (tp > (3 : Int))) = false))
 (h6 : ((decide ((((List.length bd) : Nat) : Int) > (4096 : Int))) = false))
 (h7 : ((decide ((0 : Int) ≤ (idxF mb fr))) = false))
 (h8 : ((List.length mb) ≤ (1000 : Nat)))
 (h9 : (false = v)) :
 ∃ ps, runO Try.prog DB gCo 100 Try.f26 (hbN me mb es, [.one (.ref 0 0), (MsT.mk k ep fr wh tp rd bd).a]) [.is true, .is true, .is false, .is false, .is false, .is false, .is false] (.v (.one (.bool false v))) (hbN me mb es) = some ps ∧ AllQ ps := ⟨_, by kernel_rfl, qc h1 (qc h2 (qc h3 (qc h4 (qc h5 (qc h6 (qc h7 (qc h8 (qc h9 (qc (er me) (qc (er mb) (qc (er es) (qn))))))))))))⟩
theorem co_3wh (me : Int) (mb : List Int) (es : List (Rec × Ob)) (k ep fr wh tp rd : Int) (bd : List Int) (v : Bool)
 (h1 : ((k != (1 : Int)) = true))
 (h2 : ((k != (2 : Int)) = true))
 (h3 : ((k != (3 : Int)) = false))
 (h4 : ((decide (tp < (1 : Int))) = false))
 (h5 : ((decide (tp > (3 : Int))) = false))
 (h6 : ((decide ((((List.length bd) : Nat) : Int) > (4096 : Int))) = false))
 (h7 : ((decide ((0 : Int) ≤ (idxF mb fr))) = true))
 (h8 : ((List.length mb) ≤ (1000 : Nat)))
 (h9 : ((decide ((0 : Int) ≤ (idxF mb wh))) = false))
 (h10 : (false = v)) :
 ∃ ps, runO Try.prog DB gCo 100 Try.f26 (hbN me mb es, [.one (.ref 0 0), (MsT.mk k ep fr wh tp rd bd).a]) [.is true, .is true, .is false, .is false, .is false, .is false, .is true, .is false] (.v (.one (.bool false v))) (hbN me mb es) = some ps ∧ AllQ ps := ⟨_, by kernel_rfl, qc h1 (qc h2 (qc h3 (qc h4 (qc h5 (qc h6 (qc h7 (qc h8 (qc h9 (qc h8 (qc h10 (qc (er me) (qc (er mb) (qc (er es) (qn))))))))))))))⟩
theorem co_3 (me : Int) (mb : List Int) (es : List (Rec × Ob)) (k ep fr wh tp rd : Int) (bd : List Int) (v : Bool)
 (h1 : ((k != (1 : Int)) = true))
 (h2 : ((k != (2 : Int)) = true))
 (h3 : ((k != (3 : Int)) = false))
 (h4 : ((decide (tp < (1 : Int))) = false))
 (h5 : ((decide (tp > (3 : Int))) = false))
 (h6 : ((decide ((((List.length bd) : Nat) : Int) > (4096 : Int))) = false))
 (h7 : ((decide ((0 : Int) ≤ (idxF mb fr))) = true))
 (h8 : ((List.length mb) ≤ (1000 : Nat)))
 (h9 : ((decide ((0 : Int) ≤ (idxF mb wh))) = true))
 (h10 : (true = v)) :
 ∃ ps, runO Try.prog DB gCo 100 Try.f26 (hbN me mb es, [.one (.ref 0 0), (MsT.mk k ep fr wh tp rd bd).a]) [.is true, .is true, .is false, .is false, .is false, .is false, .is true, .is true] (.v (.one (.bool false v))) (hbN me mb es) = some ps ∧ AllQ ps := ⟨_, by kernel_rfl, qc h1 (qc h2 (qc h3 (qc h4 (qc h5 (qc h6 (qc h7 (qc h8 (qc h9 (qc h8 (qc h10 (qc (er me) (qc (er mb) (qc (er es) (qn))))))))))))))⟩
theorem co_t3 (me : Int) (mb : List Int) (es : List (Rec × Ob)) (k ep fr wh tp rd : Int) (bd : List Int) (t : TkT)
 (h1 : ((k != (1 : Int)) = true))
 (h2 : ((k != (2 : Int)) = true))
 (h3 : ((k != (3 : Int)) = false))
 (h4 : ((decide (tp < (1 : Int))) = false))
 (h5 : ((decide (tp > (3 : Int))) = false))
 (h6 : ((decide ((((List.length bd) : Nat) : Int) > (4096 : Int))) = false))
 (h7 : ((decide ((0 : Int) ≤ (idxF mb fr))) = true))
 (h8 : ((List.length mb) ≤ (1000 : Nat)))
 (h9 : ((decide ((0 : Int) ≤ (idxF mb wh))) = true)) :
 ∃ ps, runO Try.prog DB gCo 100 Try.f26 (hbT me mb es t, [.one (.ref 0 0), (MsT.mk k ep fr wh tp rd bd).a]) [.is true, .is true, .is false, .is false, .is false, .is false, .is true, .is true] (.v (.one (.bool true true))) (hbT me mb es t) = some ps ∧ AllQ ps := ⟨_, by kernel_rfl, qc h1 (qc h2 (qc h3 (qc h4 (qc h5 (qc h6 (qc h7 (qc h8 (qc h9 (qc h8 (qc (er me) (qc (er mb) (qc (er ((t).1)) (qc (er es) (qc (er ((t).2)) (qc (er ((t).3)) (qc (er ((t).4)) (qc (er ((t).5)) (qc (er ((t).6)) (qn)))))))))))))))))))⟩
noncomputable def gNo : Gam DB := [(24, .fz clB7)]
theorem gNo_ok : GamOK Try.prog DB gNo := gam_fz clB7_ok gam_nil
noncomputable def gNoN : Gam DB := [(lookId, .fn (lookD DB [(11, 0)])), (24, .fz clB7)]
theorem gNoN_ok : GamOK Try.prog DB gNoN := gam_look gNo_ok
theorem no_old (ee ee' : List (Rec × Ob)) (k ep fr wh tp rd : Int) (bd : List Int) (v : Bool)
 (h1 : (KeyT Try.prog (3 : TypeId) false [(FK.int Go.IntKind.i64)]))
 (h2 : ((keyOK [(FK.int Go.IntKind.i64)] [(Fd.i fr)]) = true))
 (h3 : ((hasE ee [(Fd.i fr)]) = true))
 (h4 : (false = v))
 (h5 : (ee = ee')) :
 ∃ ps, runO Try.prog DB gNo 100 Try.f29 ([.fam 0 ee none], [.one (.mapr 0), (MsT.mk k ep fr wh tp rd bd).a]) [] (.v (.one (.bool false v))) [.fam 0 ee' none] = some ps ∧ AllQ ps := ⟨_, by kernel_rfl, qc h1 (qc h2 (qc h3 (qc h4 (qc h5 (qn)))))⟩
theorem no_new (ee ee' : List (Rec × Ob)) (k ep fr wh tp rd : Int) (bd : List Int) (v : Bool)
 (h1 : (KeyT Try.prog (3 : TypeId) false [(FK.int Go.IntKind.i64)]))
 (h2 : ((keyOK [(FK.int Go.IntKind.i64)] [(Fd.i fr)]) = true))
 (h3 : ((hasE ee [(Fd.i fr)]) = false))
 (h4 : ((List.length bd) ≤ (140737488355328 : Nat)))
 (h5 : (bd = (recW (Ob.r (Ob.node [(Fd.w bd)] ([] : List (List (Rec × Ob))))) (0 : Nat))))
 (h6 : (true = v))
 (h7 : ((setE ee [(Fd.i fr)] (Ob.node [(Fd.w bd)] ([] : List (List (Rec × Ob))))) = ee')) :
 ∃ ps, runO Try.prog DB gNoN 100 Try.f29 ([.fam 0 ee none], [.one (.mapr 0), (MsT.mk k ep fr wh tp rd bd).a]) [] (.v (.one (.bool false v))) [.fam 0 ee' none] = some ps ∧ AllQ ps := ⟨_, by kernel_rfl, qc h1 (qc h2 (qc h3 (qc h4 (qc h1 (qc h2 (qc h5 (qc h6 (qc h7 (qn)))))))))⟩
noncomputable def gOfN : Gam DB := [(lookId, .fn (lookD DB [(17, 0)]))]
noncomputable def gOfO : Gam DB := [(lookId, .fn (lookD DB [(17, 2)]))]
def tkOf (key : Rec) (ob : Ob) : TkT := ⟨key, recB ob.r 0, recB ob.r 1, recB ob.r 2, ob.c 0, ob.c 1⟩
theorem of_new (me : Int) (mb : List Int) (es es' : List (Rec × Ob)) (k ep fr wh tp rd : Int) (bd : List Int) (t : TkT)
 (h1 : (KeyT Try.prog (81 : TypeId) true [(FK.int Go.IntKind.i64), (FK.int Go.IntKind.i64)]))
 (h2 : ((keyOK [(FK.int Go.IntKind.i64), (FK.int Go.IntKind.i64)] [(Fd.i tp), (Fd.i wh)]) = true))
 (h3 : ((hasE es [(Fd.i tp), (Fd.i wh)]) = false))
 (h4 : ([(Fd.i tp), (Fd.i wh)] = (t).1))
 (h5 : ((setE es [(Fd.i tp), (Fd.i wh)] (Ob.node [(Fd.b false), (Fd.b false), (Fd.b false)] [([] : List (Rec × Ob)), ([] : List (Rec × Ob))])) = es'))
 (h6 : (false = (t).2))
 (h7 : (false = (t).3))
 (h8 : (false = (t).4))
 (h9 : (([] : List (Rec × Ob)) = (t).5))
 (h10 : (([] : List (Rec × Ob)) = (t).6)) :
 ∃ ps, runO Try.prog DB gOfN 100 Try.f27 (hbN me mb es, [.one (.ref 0 0), (MsT.mk k ep fr wh tp rd bd).a]) [] (.v (.one (.ref 2 0))) (hbT me mb es' t) = some ps ∧ AllQ ps := ⟨_, by kernel_rfl, qc h1 (qc h2 (qc h3 (qc h1 (qc h2 (qc (er me) (qc (er mb) (qc h4 (qc h5 (qc h6 (qc h7 (qc h8 (qc h9 (qc h10 (qn))))))))))))))⟩
theorem of_in (me : Int) (mb : List Int) (es es' : List (Rec × Ob)) (k ep fr wh tp rd : Int) (bd : List Int) (t : TkT)
 (h1 : (KeyT Try.prog (81 : TypeId) true [(FK.int Go.IntKind.i64), (FK.int Go.IntKind.i64)]))
 (h2 : ((keyOK [(FK.int Go.IntKind.i64), (FK.int Go.IntKind.i64)] [(Fd.i tp), (Fd.i wh)]) = true))
 (h3 : ((hasE es [(Fd.i tp), (Fd.i wh)]) = true))
 (h4 : ([(Fd.i tp), (Fd.i wh)] = (t).1))
 (h5 : (es = es'))
 (h6 : ((recB (Ob.r (obE es [(Fd.i tp), (Fd.i wh)])) (0 : Nat)) = (t).2))
 (h7 : ((recB (Ob.r (obE es [(Fd.i tp), (Fd.i wh)])) (1 : Nat)) = (t).3))
 (h8 : ((recB (Ob.r (obE es [(Fd.i tp), (Fd.i wh)])) (2 : Nat)) = (t).4))
 (h9 : ((Ob.c (obE es [(Fd.i tp), (Fd.i wh)]) (0 : Nat)) = (t).5))
 (h10 : ((Ob.c (obE es [(Fd.i tp), (Fd.i wh)]) (1 : Nat)) = (t).6)) :
 ∃ ps, runO Try.prog DB [] 100 Try.f27 (hbN me mb es, [.one (.ref 0 0), (MsT.mk k ep fr wh tp rd bd).a]) [] (.v (.one (.ref 2 0))) (hbT me mb es' t) = some ps ∧ AllQ ps := ⟨_, by kernel_rfl, qc h1 (qc h2 (qc h3 (qc (er me) (qc (er mb) (qc h4 (qc h5 (qc h6 (qc h7 (qc h8 (qc h9 (qc h10 (qn))))))))))))⟩
theorem of_out (me : Int) (mb : List Int) (es es' : List (Rec × Ob)) (k ep fr wh tp rd : Int) (bd : List Int) (t t' : TkT)
 (h1 : (KeyT Try.prog (81 : TypeId) true [(FK.int Go.IntKind.i64), (FK.int Go.IntKind.i64)]))
 (h2 : ((keyOK [(FK.int Go.IntKind.i64), (FK.int Go.IntKind.i64)] [(Fd.i tp), (Fd.i wh)]) = true))
 (h3 : ([(Fd.i tp), (Fd.i wh)] = (t).1))
 (h4 : ((t).1 = (t').1))
 (h5 : (es = es'))
 (h6 : ((t).2 = (t').2))
 (h7 : ((t).3 = (t').3))
 (h8 : ((t).4 = (t').4))
 (h9 : ((t).5 = (t').5))
 (h10 : ((t).6 = (t').6)) :
 ∃ ps, runO Try.prog DB gOfO 100 Try.f27 (hbT me mb es t, [.one (.ref 0 0), (MsT.mk k ep fr wh tp rd bd).a]) [] (.v (.one (.ref 2 0))) (hbT me mb es' t') = some ps ∧ AllQ ps := ⟨_, by kernel_rfl, qc h1 (qc h2 (qc h3 (qc (er me) (qc (er mb) (qc h4 (qc h5 (qc h6 (qc h7 (qc h8 (qc h9 (qc h10 (qn))))))))))))⟩
end Go.Num
namespace Go.Num
open Go.Abs Go.Proofs Go.Shelf Go.RowKit
noncomputable def mostQ := mkF DB Try.f17.ntmps idRd (fun h => (hbX h, [.one (.ref 0 0)])) (fun h => some (.v (.one (.int .i64 false (fF h.2.1))), hbX h, [h.2.1 ≠ [] ∧ h.2.1.length ≤ 1000]))
theorem most_ok : OpOK Try.prog DB 17 mostQ := by
  refine opOK_mkG mixed Try.func17 (enters_of Try.func17 (by kernel_rfl) rfl) ?_
  rintro ⟨me, mb, es, x⟩ r' bs' ps h hps
  simp only [Option.some.injEq, Prod.mk.injEq] at h
  obtain ⟨rfl, rfl, rfl⟩ := h
  obtain ⟨hm, hl⟩ : mb ≠ [] ∧ mb.length ≤ 1000 := hps (mb ≠ [] ∧ mb.length ≤ 1000) (by simp)
  have h1 : InI64 ((mb.length : Int) - 1) := ⟨by omega, by omega⟩
  have h2 : IntKind.i64.wrap (((mb.length : Int) - 1).tdiv 3) = fF mb := by
    have hp := List.length_pos_iff.2 hm
    have : fF mb = (((mb.length - 1) / 3 : Nat) : Int) := by
      unfold fF
      rw [show ((mb.length : Int) - 1) = ((mb.length - 1 : Nat) : Int) by omega, show (3 : Int) = ((3 : Nat) : Int) from rfl, ← Int.ofNat_tdiv]
    rw [show (((mb.length : Int) - 1).tdiv 3) = fF mb from rfl, this, IntKind.wrap_i64]
    omega
  cases x with
  | none => exact ⟨_, _, _, gMo_ok, mo_n me mb es _ hm h1 h2⟩
  | some t => exact ⟨_, _, _, gMo_ok, mo_t me mb es t _ hm h1 h2⟩
def msRd : A0 DB.τ → Option MsT
  | .agg [.int .i64 _ k, .int .i64 _ ep, .int .i64 _ fr, .int .i64 _ wh, .int .i64 _ tp, .int .i64 _ rd, .words .u8 bd] => some ⟨k, ep, fr, wh, tp, rd, bd⟩
  | _ => none
def hmRd (bs : List (BoxSt DB.τ)) : List (A0 DB.τ) → Option (HbT × MsT)
  | [.one (.ref 0 0), x] => match hbRd bs, msRd x with
    | some h, some m => some (h, m)
    | _, _ => none
  | _ => none
def nOnly : HbT × MsT → Option ((Int × List Int × List (Rec × Ob)) × MsT)
  | ((me, mb, es, none), m) => some ((me, mb, es), m)
  | _ => none
def tOnly : HbT × MsT → Option ((Int × List Int × List (Rec × Ob)) × TkT × MsT)
  | ((me, mb, es, some t), m) => some ((me, mb, es), t, m)
  | _ => none
def cntP (mb : List Int) (m : MsT) : Prop := (m.k = 1 ∨ m.k = 2 ∨ m.k = 3) ∧ 1 ≤ m.tp ∧ m.tp ≤ 3 ∧ m.bd.length ≤ 4096 ∧ m.fr ∈ mb ∧ m.wh ∈ mb
instance (mb : List Int) (m : MsT) : Decidable (cntP mb m) := by unfold cntP; infer_instance
def cntB (mb : List Int) (m : MsT) : Bool := decide (cntP mb m)
noncomputable def countsN := mkF DB Try.f26.ntmps (fun bs xs => (hmRd bs xs).bind nOnly) (fun t => (hbN t.1.1 t.1.2.1 t.1.2.2, [.one (.ref 0 0), t.2.a])) (fun t => some (.v (.one (.bool false (cntB t.1.2.1 t.2))), hbN t.1.1 t.1.2.1 t.1.2.2, [t.1.2.1.length ≤ 1000]))
noncomputable def countsT := mkF DB Try.f26.ntmps (fun bs xs => (hmRd bs xs).bind tOnly) (fun t => (hbT t.1.1 t.1.2.1 t.1.2.2 t.2.1, [.one (.ref 0 0), t.2.2.a])) (fun t => some (.v (.one (.bool true true)), hbT t.1.1 t.1.2.1 t.1.2.2 t.2.1, [t.1.2.1.length ≤ 1000, cntP t.1.2.1 t.2.2 ∧ t.2.2.k ≠ 1]))
theorem cnt_false {mb : List Int} {m : MsT} (h : ¬ cntP mb m) : cntB mb m = false := decide_eq_false h
theorem cnt_true {mb : List Int} {m : MsT} (h : cntP mb m) : cntB mb m = true := decide_eq_true h
theorem ne1 {k a : Int} (h : k ≠ a) : (k != a) = true := bne_iff_ne.2 h
theorem ne0 {k a : Int} (h : k = a) : (k != a) = false := bne_eq_false_iff_eq.2 h
theorem ix1 {l : List Int} {x : Int} (h : x ∈ l) : decide (0 ≤ idxF l x) = true := decide_eq_true (by rw [idx_mem]; exact h)
theorem ix0 {l : List Int} {x : Int} (h : ¬ x ∈ l) : decide (0 ≤ idxF l x) = false := decide_eq_false (by rw [idx_mem]; exact h)
theorem countsN_ok : OpOK Try.prog DB 26 countsN := by
  refine opOK_mkG mixed Try.func26 (enters_of Try.func26 (by kernel_rfl) rfl) ?_
  rintro ⟨⟨me, mb, es⟩, ⟨k, ep, fr, wh, tp, rd, bd⟩⟩ r' bs' ps h hps
  simp only [Option.some.injEq, Prod.mk.injEq] at h
  obtain ⟨rfl, rfl, rfl⟩ := h
  have hl : mb.length ≤ 1000 := hps (mb.length ≤ 1000) (by simp)
  simp only
  generalize hv : cntB mb ⟨k, ep, fr, wh, tp, rd, bd⟩ = v
  have hF : ¬ cntP mb ⟨k, ep, fr, wh, tp, rd, bd⟩ → false = v := fun h => by rw [← hv, cnt_false h]
  have hT : cntP mb ⟨k, ep, fr, wh, tp, rd, bd⟩ → true = v := fun h => by rw [← hv, cnt_true h]
  by_cases ck : k = 1 ∨ k = 2 ∨ k = 3
  · by_cases c1 : tp < 1
    · have hx := hF fun h => by have := h.2.1; simp only at this; omega
      have d1 := decide_eq_true c1
      rcases ck with ck | ck | ck
      · exact ⟨_, _, _, gCo_ok, co_1lo me mb es k ep fr wh tp rd bd v (ne0 ck) d1 hx⟩
      · exact ⟨_, _, _, gCo_ok, co_2lo me mb es k ep fr wh tp rd bd v (ne1 (by omega)) (ne0 ck) d1 hx⟩
      · exact ⟨_, _, _, gCo_ok, co_3lo me mb es k ep fr wh tp rd bd v (ne1 (by omega)) (ne1 (by omega)) (ne0 ck) d1 hx⟩
    have d1 := decide_eq_false c1
    by_cases c2 : tp > 3
    · have hx := hF fun h => by have := h.2.2.1; simp only at this; omega
      have d2 := decide_eq_true c2
      rcases ck with ck | ck | ck
      · exact ⟨_, _, _, gCo_ok, co_1hi me mb es k ep fr wh tp rd bd v (ne0 ck) d1 d2 hx⟩
      · exact ⟨_, _, _, gCo_ok, co_2hi me mb es k ep fr wh tp rd bd v (ne1 (by omega)) (ne0 ck) d1 d2 hx⟩
      · exact ⟨_, _, _, gCo_ok, co_3hi me mb es k ep fr wh tp rd bd v (ne1 (by omega)) (ne1 (by omega)) (ne0 ck) d1 d2 hx⟩
    have d2 := decide_eq_false c2
    by_cases c3 : (bd.length : Int) > 4096
    · have hx := hF fun h => by have := h.2.2.2.1; simp only at this; omega
      have d3 := decide_eq_true c3
      rcases ck with ck | ck | ck
      · exact ⟨_, _, _, gCo_ok, co_1len me mb es k ep fr wh tp rd bd v (ne0 ck) d1 d2 d3 hx⟩
      · exact ⟨_, _, _, gCo_ok, co_2len me mb es k ep fr wh tp rd bd v (ne1 (by omega)) (ne0 ck) d1 d2 d3 hx⟩
      · exact ⟨_, _, _, gCo_ok, co_3len me mb es k ep fr wh tp rd bd v (ne1 (by omega)) (ne1 (by omega)) (ne0 ck) d1 d2 d3 hx⟩
    have d3 := decide_eq_false c3
    by_cases c4 : fr ∈ mb
    · have d4 := ix1 c4
      by_cases c5 : wh ∈ mb
      · have d5 := ix1 c5
        have hx := hT ⟨ck, by simp only; omega, by simp only; omega, by simp only; omega, c4, c5⟩
        rcases ck with ck | ck | ck
        · exact ⟨_, _, _, gCo_ok, co_1 me mb es k ep fr wh tp rd bd v (ne0 ck) d1 d2 d3 d4 hl d5 hx⟩
        · exact ⟨_, _, _, gCo_ok, co_2 me mb es k ep fr wh tp rd bd v (ne1 (by omega)) (ne0 ck) d1 d2 d3 d4 hl d5 hx⟩
        · exact ⟨_, _, _, gCo_ok, co_3 me mb es k ep fr wh tp rd bd v (ne1 (by omega)) (ne1 (by omega)) (ne0 ck) d1 d2 d3 d4 hl d5 hx⟩
      · have d5 := ix0 c5
        have hx := hF fun h => c5 h.2.2.2.2.2
        rcases ck with ck | ck | ck
        · exact ⟨_, _, _, gCo_ok, co_1wh me mb es k ep fr wh tp rd bd v (ne0 ck) d1 d2 d3 d4 hl d5 hx⟩
        · exact ⟨_, _, _, gCo_ok, co_2wh me mb es k ep fr wh tp rd bd v (ne1 (by omega)) (ne0 ck) d1 d2 d3 d4 hl d5 hx⟩
        · exact ⟨_, _, _, gCo_ok, co_3wh me mb es k ep fr wh tp rd bd v (ne1 (by omega)) (ne1 (by omega)) (ne0 ck) d1 d2 d3 d4 hl d5 hx⟩
    · have d4 := ix0 c4
      have hx := hF fun h => c4 h.2.2.2.2.1
      rcases ck with ck | ck | ck
      · exact ⟨_, _, _, gCo_ok, co_1fr me mb es k ep fr wh tp rd bd v (ne0 ck) d1 d2 d3 d4 hl hx⟩
      · exact ⟨_, _, _, gCo_ok, co_2fr me mb es k ep fr wh tp rd bd v (ne1 (by omega)) (ne0 ck) d1 d2 d3 d4 hl hx⟩
      · exact ⟨_, _, _, gCo_ok, co_3fr me mb es k ep fr wh tp rd bd v (ne1 (by omega)) (ne1 (by omega)) (ne0 ck) d1 d2 d3 d4 hl hx⟩
  · exact ⟨_, _, _, gCo_ok, co_k me mb es k ep fr wh tp rd bd v (ne1 (by omega)) (ne1 (by omega)) (ne1 (by omega)) (hF fun h => ck h.1)⟩
theorem countsT_ok : OpOK Try.prog DB 26 countsT := by
  refine opOK_mkG mixed Try.func26 (enters_of Try.func26 (by kernel_rfl) rfl) ?_
  rintro ⟨⟨me, mb, es⟩, t, ⟨k, ep, fr, wh, tp, rd, bd⟩⟩ r' bs' ps h hps
  simp only [Option.some.injEq, Prod.mk.injEq] at h
  obtain ⟨rfl, rfl, rfl⟩ := h
  have hl : mb.length ≤ 1000 := hps (mb.length ≤ 1000) (by simp)
  obtain ⟨⟨ck, c1, c2, c3, c4, c5⟩, c0⟩ : cntP mb ⟨k, ep, fr, wh, tp, rd, bd⟩ ∧ k ≠ 1 := hps (cntP mb ⟨k, ep, fr, wh, tp, rd, bd⟩ ∧ k ≠ 1) (by simp)
  simp only at ck c1 c2 c3 c4 c5
  rcases ck with ck | ck | ck
  · exact (c0 ck).elim
  · exact ⟨_, _, _, gCo_ok, co_t2 me mb es k ep fr wh tp rd bd t (ne1 c0) (ne0 ck) (decide_eq_false (by omega)) (decide_eq_false (by omega)) (decide_eq_false (by omega)) (ix1 c4) hl (ix1 c5)⟩
  · exact ⟨_, _, _, gCo_ok, co_t3 me mb es k ep fr wh tp rd bd t (ne1 c0) (ne1 (by omega)) (ne0 ck) (decide_eq_false (by omega)) (decide_eq_false (by omega)) (decide_eq_false (by omega)) (ix1 c4) hl (ix1 c5)⟩
def noteM (ee : List (Rec × Ob)) (fr : Int) (bd : List Int) : List (Rec × Ob) := if hasE ee [.i fr] = true then ee else setE ee [.i fr] (noteOb bd)
def noRd : List (BoxSt DB.τ) → List (A0 DB.τ) → Option (List (Rec × Ob) × MsT)
  | [.fam k ee none], [.one (.mapr 0), x] => bif Nat.beq k 0 then (msRd x).map (ee, ·) else none
  | _, _ => none
noncomputable def noteQ := mkF DB Try.f29.ntmps noRd (fun t => ([.fam 0 t.1 none], [.one (.mapr 0), t.2.a])) (fun t => some (.v (.one (.bool false (!hasE t.1 [.i t.2.fr]))), [.fam 0 (noteM t.1 t.2.fr t.2.bd) none], [t.2.bd.length ≤ 140737488355328]))
theorem note_ok : OpOK Try.prog DB 29 noteQ := by
  refine opOK_mkG mixed Try.func29 (enters_of Try.func29 (by kernel_rfl) rfl) ?_
  rintro ⟨ee, ⟨k, ep, fr, wh, tp, rd, bd⟩⟩ r' bs' ps h hps
  simp only [Option.some.injEq, Prod.mk.injEq] at h
  obtain ⟨rfl, rfl, rfl⟩ := h
  have hl : bd.length ≤ 140737488355328 := hps (bd.length ≤ 140737488355328) (by simp)
  cases hh : hasE ee [.i fr]
  · exact ⟨_, _, _, gNoN_ok, no_new ee _ k ep fr wh tp rd bd _ keyT_int rfl hh hl rfl rfl (by unfold noteM; rw [hh]; rfl)⟩
  · exact ⟨_, _, _, gNo_ok, no_old ee _ k ep fr wh tp rd bd _ keyT_int rfl hh rfl (by unfold noteM; rw [hh]; rfl)⟩
def ofT (es : List (Rec × Ob)) (key : Rec) : TkT := if hasE es key = true then tkOf key (obE es key) else ⟨key, false, false, false, [], []⟩
def ofE (es : List (Rec × Ob)) (key : Rec) : List (Rec × Ob) := if hasE es key = true then es else setE es key (tkOb false false false [] [])
noncomputable def ofN := mkF DB Try.f27.ntmps (fun bs xs => (hmRd bs xs).bind nOnly) (fun t => (hbN t.1.1 t.1.2.1 t.1.2.2, [.one (.ref 0 0), t.2.a])) (fun t => some (.v (.one (.ref 2 0)), hbT t.1.1 t.1.2.1 (ofE t.1.2.2 t.2.key) (ofT t.1.2.2 t.2.key), []))
noncomputable def ofO := mkF DB Try.f27.ntmps (fun bs xs => (hmRd bs xs).bind tOnly) (fun t => (hbT t.1.1 t.1.2.1 t.1.2.2 t.2.1, [.one (.ref 0 0), t.2.2.a])) (fun t => some (.v (.one (.ref 2 0)), hbT t.1.1 t.1.2.1 t.1.2.2 t.2.1, [t.2.1.key = t.2.2.key]))
theorem gOfN_ok : GamOK Try.prog DB gOfN := gam_look gam_nil
theorem gOfO_ok : GamOK Try.prog DB gOfO := gam_look gam_nil
theorem ofN_ok : OpOK Try.prog DB 27 ofN := by
  refine opOK_mkG mixed Try.func27 (enters_of Try.func27 (by kernel_rfl) rfl) ?_
  rintro ⟨⟨me, mb, es⟩, ⟨k, ep, fr, wh, tp, rd, bd⟩⟩ r' bs' ps h hps
  simp only [Option.some.injEq, Prod.mk.injEq] at h
  obtain ⟨rfl, rfl, rfl⟩ := h
  have hk : (MsT.mk k ep fr wh tp rd bd).key = [.i tp, .i wh] := rfl
  simp only [hk]
  cases hh : hasE es [.i tp, .i wh]
  · have e1 : ofT es [.i tp, .i wh] = ⟨[.i tp, .i wh], false, false, false, [], []⟩ := by unfold ofT; rw [hh]; rfl
    have e2 : ofE es [.i tp, .i wh] = setE es [.i tp, .i wh] (tkOb false false false [] []) := by unfold ofE; rw [hh]; rfl
    rw [e1, e2]
    exact ⟨_, _, _, gOfN_ok, of_new me mb es _ k ep fr wh tp rd bd _ keyT_sub rfl hh rfl rfl rfl rfl rfl rfl rfl⟩
  · have e1 : ofT es [.i tp, .i wh] = tkOf [.i tp, .i wh] (obE es [.i tp, .i wh]) := by unfold ofT; rw [hh]; rfl
    have e2 : ofE es [.i tp, .i wh] = es := by unfold ofE; rw [hh]; rfl
    rw [e1, e2]
    exact ⟨_, _, _, gam_nil, of_in me mb es _ k ep fr wh tp rd bd _ keyT_sub rfl hh rfl rfl rfl rfl rfl rfl rfl⟩
theorem ofO_ok : OpOK Try.prog DB 27 ofO := by
  refine opOK_mkG mixed Try.func27 (enters_of Try.func27 (by kernel_rfl) rfl) ?_
  rintro ⟨⟨me, mb, es⟩, t, ⟨k, ep, fr, wh, tp, rd, bd⟩⟩ r' bs' ps h hps
  simp only [Option.some.injEq, Prod.mk.injEq] at h
  obtain ⟨rfl, rfl, rfl⟩ := h
  have hk : t.key = [.i tp, .i wh] := hps (t.key = _) (by simp [MsT.key])
  exact ⟨_, _, _, gOfO_ok, of_out me mb es _ k ep fr wh tp rd bd t _ keyT_sub rfl hk.symm rfl rfl rfl rfl rfl rfl rfl⟩
end Go.Num
namespace Go.Num
open Go.Abs
theorem hasE_mem {es : List (Rec × Ob)} {k : Rec} (h : hasE es k = true) : (k, obE es k) ∈ es := by
  induction es with
  | nil => cases h
  | cons e es ih =>
    obtain ⟨x, o⟩ := e
    by_cases hx : x = k
    · subst hx
      have : obE ((x, o) :: es) x = o := by simp [obE, getE]
      rw [this]
      exact List.mem_cons_self ..
    · have h1 : hasE es k = true := by simpa [hasE, getE, hx] using h
      have h2 : obE ((x, o) :: es) k = obE es k := by simp [obE, getE, hx]
      rw [h2]
      exact List.mem_cons_of_mem _ (ih h1)
theorem hasE_iff {es : List (Rec × Ob)} {k : Rec} : hasE es k = true ↔ k ∈ es.map (·.1) := by
  constructor
  · intro h
    exact List.mem_map.2 ⟨_, hasE_mem h, rfl⟩
  · intro h
    induction es with
    | nil => cases h
    | cons e es ih =>
      obtain ⟨x, o⟩ := e
      by_cases hx : x = k
      · simp [hasE, getE, hx]
      · have : k ∈ es.map (·.1) := by
          rcases List.mem_cons.1 h with h | h
          · exact (hx h.symm).elim
          · exact h
        simpa [hasE, getE, hx] using ih this
theorem setE_keys {es : List (Rec × Ob)} {k : Rec} {o : Ob} (h : hasE es k = true) : (setE es k o).map (·.1) = es.map (·.1) := by
  induction es with
  | nil => cases h
  | cons e es ih =>
    obtain ⟨x, p⟩ := e
    by_cases hx : x = k
    · simp [setE, hx]
    · have h1 : hasE es k = true := by simpa [hasE, getE, hx] using h
      simp [setE, hx, ih h1]
theorem setE_keysN {es : List (Rec × Ob)} {k : Rec} {o : Ob} (h : hasE es k = false) : setE es k o = es ++ [(k, o)] := by
  induction es with
  | nil => rfl
  | cons e es ih =>
    obtain ⟨x, p⟩ := e
    by_cases hx : x = k
    · simp [hasE, getE, hx] at h
    · have h1 : hasE es k = false := by simpa [hasE, getE, hx] using h
      simp [setE, hx, ih h1]
theorem setE_mem {es : List (Rec × Ob)} {k : Rec} {o : Ob} {e : Rec × Ob} (h : e ∈ setE es k o) : e = (k, o) ∨ e ∈ es := by
  induction es with
  | nil => simpa [setE] using h
  | cons f es ih =>
    obtain ⟨x, p⟩ := f
    by_cases hx : x = k
    · rw [setE, if_pos hx] at h
      rcases List.mem_cons.1 h with h | h
      · exact Or.inl (by rw [h, hx])
      · exact Or.inr (List.mem_cons_of_mem _ h)
    · rw [setE, if_neg hx] at h
      rcases List.mem_cons.1 h with h | h
      · exact Or.inr (by rw [h]; exact List.mem_cons_self ..)
      · rcases ih h with h | h
        · exact Or.inl h
        · exact Or.inr (List.mem_cons_of_mem _ h)
theorem hasE_set {es : List (Rec × Ob)} {k j : Rec} {o : Ob} : hasE (setE es k o) j = (decide (j = k) || hasE es j) := by
  induction es with
  | nil =>
    by_cases hj : j = k
    · simp [setE, hasE, getE, hj]
    · simp [setE, hasE, getE, hj, Ne.symm hj]
  | cons e es ih =>
    obtain ⟨x, p⟩ := e
    by_cases hx : x = k
    · subst hx
      rw [setE, if_pos rfl]
      by_cases hj : j = x
      · simp [hasE, getE, hj]
      · simp [hasE, getE, hj, Ne.symm hj]
    · rw [setE, if_neg hx]
      by_cases hj : j = x
      · simp [hasE, getE, hj]
      · have h1 : hasE ((x, p) :: es) j = hasE es j := by simp [hasE, getE, Ne.symm hj]
        have h2 : hasE ((x, p) :: setE es k o) j = hasE (setE es k o) j := by simp [hasE, getE, Ne.symm hj]
        rw [h1, h2, ih]
theorem obE_set {es : List (Rec × Ob)} {k j : Rec} {o : Ob} : obE (setE es k o) j = if j = k then o else obE es j := by
  induction es with
  | nil =>
    by_cases hj : j = k
    · simp [setE, obE, getE, hj]
    · simp [setE, obE, getE, hj, Ne.symm hj]
  | cons e es ih =>
    obtain ⟨x, p⟩ := e
    by_cases hx : x = k
    · subst hx
      rw [setE, if_pos rfl]
      by_cases hj : j = x
      · simp [obE, getE, hj]
      · simp [obE, getE, hj, Ne.symm hj]
    · rw [setE, if_neg hx]
      by_cases hj : j = x
      · subst hj
        simp [obE, getE, hx]
      · have h1 : obE ((x, p) :: es) j = obE es j := by simp [obE, getE, Ne.symm hj]
        have h2 : obE ((x, p) :: setE es k o) j = obE (setE es k o) j := by simp [obE, getE, Ne.symm hj]
        rw [h1, h2, ih]
theorem setE_len (es : List (Rec × Ob)) (k : Rec) (o : Ob) : (setE es k o).length ≤ es.length + 1 := by
  cases h : hasE es k
  · rw [setE_keysN h, List.length_append]
    exact Nat.le_refl _
  · have := congrArg List.length (setE_keys (o := o) h)
    rw [List.length_map, List.length_map] at this
    omega
end Go.Num
namespace Go.Num
open Go.Abs Go.Proofs Go.Shelf Go.RowKit
structure S7 where
  t : TkT
  ms : List Rec
  ts : List Rec
def cnX (me : Int) (mb : List Int) (es : List (Rec × Ob)) (t : TkT) (ms ts : List Rec) : List (BoxSt DB.τ) := [hubX me mb 3, tkX t 4 5, ansX 6 7, .fam 1 es (some (t.key, [.ref 1 0])), .fam 0 t.ee none, .fam 0 t.rr none, msX ms, tsX ts]
def heX (me : Int) (mb : List Int) (es : List (Rec × Ob)) (t : TkT) (ms ts : List Rec) : List (BoxSt DB.τ) := [hubX me mb 2, ansX 3 4, .fam 1 es (some (t.key, [.ref 5 0])), msX ms, tsX ts, tkX t 6 7, .fam 0 t.ee none, .fam 0 t.rr none]
def hnX (me : Int) (mb : List Int) (es : List (Rec × Ob)) (ms ts : List Rec) : List (BoxSt DB.τ) := [hubX me mb 2, ansX 3 4, .fam 1 es none, msX ms, tsX ts]
def cnR : Bool → Bool → Int → List Int → List (Rec × Ob) → TkT → List Rec → List Rec → List (BoxSt DB.τ)
  | false, false, me, mb, es, t, ms, ts => cnX me mb es t ms ts
  | false, true, me, mb, es, t, ms, ts => [hubX me mb 3, tkX t 4 5, ansX 6 8, .fam 1 es (some (t.key, [.ref 1 0])), .fam 0 t.ee none, .fam 0 t.rr none, msX ms, .dead, tsX ts]
  | true, false, me, mb, es, t, ms, ts => [hubX me mb 3, tkX t 4 5, ansX 8 7, .fam 1 es (some (t.key, [.ref 1 0])), .fam 0 t.ee none, .fam 0 t.rr none, .dead, tsX ts, msX ms]
  | true, true, me, mb, es, t, ms, ts => [hubX me mb 3, tkX t 4 5, ansX 8 9, .fam 1 es (some (t.key, [.ref 1 0])), .fam 0 t.ee none, .fam 0 t.rr none, .dead, .dead, msX ms, tsX ts]
def heR : Bool → Bool → Int → List Int → List (Rec × Ob) → TkT → List Rec → List Rec → List (BoxSt DB.τ)
  | false, false, me, mb, es, t, ms, ts => heX me mb es t ms ts
  | false, true, me, mb, es, t, ms, ts => [hubX me mb 2, ansX 3 8, .fam 1 es (some (t.key, [.ref 5 0])), msX ms, .dead, tkX t 6 7, .fam 0 t.ee none, .fam 0 t.rr none, tsX ts]
  | true, false, me, mb, es, t, ms, ts => [hubX me mb 2, ansX 8 4, .fam 1 es (some (t.key, [.ref 5 0])), .dead, tsX ts, tkX t 6 7, .fam 0 t.ee none, .fam 0 t.rr none, msX ms]
  | true, true, me, mb, es, t, ms, ts => [hubX me mb 2, ansX 8 9, .fam 1 es (some (t.key, [.ref 5 0])), .dead, .dead, tkX t 6 7, .fam 0 t.ee none, .fam 0 t.rr none, msX ms, tsX ts]
noncomputable def gC0 : Gam DB := [(17, .op [true] mostQ), (31, .rd [true, false] countR), (24, .fz clB7)]
theorem gC0_ok : GamOK Try.prog DB gC0 := gam_op most_ok (gam_rd count_ok (gam_fz clB7_ok gam_nil))
theorem c0_told (me : Int) (mb : List Int) (es : List (Rec × Ob)) (t t' : TkT) (k ep fr wh tp rd : Int) (bd : List Int) (ms ts ms' ts' : List Rec)
 (h1 : ((mb ≠ ([] : List (Int))) ∧ ((List.length mb) ≤ (1000 : Nat))))
 (h2 : (InI64 ((((List.length mb) : Nat) : Int) + (fF mb))))
 (h3 : ((t).3 = true))
 (h4 : ((t).4 = true))
 (h5 : ((t).2 = (t').2))
 (h6 : ((t).3 = (t').3))
 (h7 : ((t).4 = (t').4))
 (h8 : ((t).1 = (t').1))
 (h9 : ((t).5 = (t').5))
 (h10 : ((t).6 = (t').6))
 (h11 : (ms = ms'))
 (h12 : (ts = ts')) :
 ∃ ps, runO Try.prog DB gC0 100 Try.f30 (cnX me mb es t ms ts, [.one (.ref 0 0), .one (.ref 1 0), (MsT.mk k ep fr wh tp rd bd).a, .one (.ref 2 0)]) [.is true, .is true] (.tup []) (cnR false false me mb es t' ms' ts') = some ps ∧ AllQ ps := ⟨_, by kernel_rfl, qc (er me) (qc (er mb) (qc (er ((t).1)) (qc (er es) (qc (er ((t).2)) (qc (er ((t).3)) (qc (er ((t).4)) (qc (er ((t).5)) (qc (er ((t).6)) (qc h1 (qc h2 (qc (show ((2 : Int) ≠ (0 : Int)) from by decide) (qc h3 (qc h4 (qc (er me) (qc (er mb) (qc h5 (qc h6 (qc h7 (qc h8 (qc (er es) (qc h9 (qc h10 (qc h11 (qc h12 (qn)))))))))))))))))))))))))⟩
theorem c0_no (me : Int) (mb : List Int) (es : List (Rec × Ob)) (t t' : TkT) (k ep fr wh tp rd : Int) (bd : List Int) (ms ts ms' ts' : List Rec)
 (h1 : ((mb ≠ ([] : List (Int))) ∧ ((List.length mb) ≤ (1000 : Nat))))
 (h2 : (InI64 ((((List.length mb) : Nat) : Int) + (fF mb))))
 (h3 : ((t).3 = true))
 (h4 : ((t).4 = false))
 (h5 : (NotesOK (t).6))
 (h6 : (InB bd))
 (h7 : (InI64 ((2 : Int) * (fF mb))))
 (h8 : ((decide ((cntF (t).6 bd) > ((2 : Int) * (fF mb)))) = false))
 (h9 : ((t).2 = (t').2))
 (h10 : ((t).3 = (t').3))
 (h11 : ((t).4 = (t').4))
 (h12 : ((t).1 = (t').1))
 (h13 : ((t).5 = (t').5))
 (h14 : ((t).6 = (t').6))
 (h15 : (ms = ms'))
 (h16 : (ts = ts')) :
 ∃ ps, runO Try.prog DB gC0 100 Try.f30 (cnX me mb es t ms ts, [.one (.ref 0 0), .one (.ref 1 0), (MsT.mk k ep fr wh tp rd bd).a, .one (.ref 2 0)]) [.is true, .is false, .is false] (.tup []) (cnR false false me mb es t' ms' ts') = some ps ∧ AllQ ps := ⟨_, by kernel_rfl, qc (er me) (qc (er mb) (qc (er ((t).1)) (qc (er es) (qc (er ((t).2)) (qc (er ((t).3)) (qc (er ((t).4)) (qc (er ((t).5)) (qc (er ((t).6)) (qc h1 (qc h2 (qc (show ((2 : Int) ≠ (0 : Int)) from by decide) (qc h3 (qc h4 (qc h5 (qc h6 (qc h7 (qc h8 (qc (er me) (qc (er mb) (qc h9 (qc h10 (qc h11 (qc h12 (qc (er es) (qc h13 (qc h14 (qc h15 (qc h16 (qn)))))))))))))))))))))))))))))⟩
theorem c0_yes (me : Int) (mb : List Int) (es : List (Rec × Ob)) (t t' : TkT) (k ep fr wh tp rd : Int) (bd : List Int) (ms ts ms' ts' : List Rec)
 (h1 : ((mb ≠ ([] : List (Int))) ∧ ((List.length mb) ≤ (1000 : Nat))))
 (h2 : (InI64 ((((List.length mb) : Nat) : Int) + (fF mb))))
 (h3 : ((t).3 = true))
 (h4 : ((t).4 = false))
 (h5 : (NotesOK (t).6))
 (h6 : (InB bd))
 (h7 : (InI64 ((2 : Int) * (fF mb))))
 (h8 : ((decide ((cntF (t).6 bd) > ((2 : Int) * (fF mb)))) = true))
 (h9 : ((List.length bd) ≤ (140737488355328 : Nat)))
 (h10 : ((((List.length ts) + (1 : Nat)) * (40 : Nat)) ≤ (140737488355328 : Nat)))
 (h11 : (((List.length ts) + (1 : Nat)) ≤ (9223372036854775807 : Nat)))
 (h12 : ((t).2 = (t').2))
 (h13 : ((t).3 = (t').3))
 (h14 : (true = (t').4))
 (h15 : ((t).1 = (t').1))
 (h16 : ((t).5 = (t').5))
 (h17 : ((t).6 = (t').6))
 (h18 : (ms = ms'))
 (h19 : ((ts ++ [[(Fd.i tp), (Fd.i wh), (Fd.w bd)]]) = ts')) :
 ∃ ps, runO Try.prog DB gC0 100 Try.f30 (cnX me mb es t ms ts, [.one (.ref 0 0), .one (.ref 1 0), (MsT.mk k ep fr wh tp rd bd).a, .one (.ref 2 0)]) [.is true, .is false, .is true] (.tup []) (cnR false true me mb es t' ms' ts') = some ps ∧ AllQ ps := ⟨_, by kernel_rfl, qc (er me) (qc (er mb) (qc (er ((t).1)) (qc (er es) (qc (er ((t).2)) (qc (er ((t).3)) (qc (er ((t).4)) (qc (er ((t).5)) (qc (er ((t).6)) (qc h1 (qc h2 (qc (show ((2 : Int) ≠ (0 : Int)) from by decide) (qc h3 (qc h4 (qc h5 (qc h6 (qc h7 (qc h8 (qc h9 (qc h10 (qc h11 (qc (er me) (qc (er mb) (qc h12 (qc h13 (qc h14 (qc h15 (qc (er es) (qc h16 (qc h17 (qc h18 (qc h19 (qn))))))))))))))))))))))))))))))))⟩
def halfF (mb : List Int) : Int := ((mb.length : Int) + fF mb).tdiv 2
def MsT.tr (m : MsT) : Rec := [.i m.tp, .i m.wh, .w m.bd]
def con2 (mb : List Int) (m : MsT) (s : S7) : S7 × Bool :=
  if s.t.t = false ∧ 2 * fF mb < cntF s.t.rr m.bd then (⟨{ s.t with t := true }, s.ms, s.ts ++ [m.tr]⟩, true) else (s, false)
theorem con2_yes {mb : List Int} {m : MsT} {s : S7} (h1 : s.t.t = false) (h2 : 2 * fF mb < cntF s.t.rr m.bd) : con2 mb m s = (⟨{ s.t with t := true }, s.ms, s.ts ++ [m.tr]⟩, true) := if_pos ⟨h1, h2⟩
theorem con2_no {mb : List Int} {m : MsT} {s : S7} (h : ¬ (s.t.t = false ∧ 2 * fF mb < cntF s.t.rr m.bd)) : con2 mb m s = (s, false) := if_neg h
structure Base7 (n : Nat) (mb : List Int) (m : MsT) (s : S7) : Prop where
  mb0 : mb ≠ []
  mb1 : mb.length ≤ 1000
  ee : s.t.ee.length ≤ n ∧ ∀ e ∈ s.t.ee, InB (recW e.2.r 0)
  rr : s.t.rr.length ≤ n ∧ ∀ e ∈ s.t.rr, InB (recW e.2.r 0)
  bd : InB m.bd
  bl : m.bd.length ≤ 4096
  ms : s.ms.length ≤ n
  ts : s.ts.length ≤ n
def cnRd (bs : List (BoxSt DB.τ)) : List (A0 DB.τ) → Option ((Int × List Int × List (Rec × Ob)) × S7 × MsT)
  | [.one (.ref 0 0), .one (.ref 1 0), x, .one (.ref 2 0)] => match bs, msRd x with
    | [.fixed t1 ps, .fixed t2 qs, .fixed t3 us, .fam k4 es (some (key, [.ref 1 0])), .fam k5 ee none, .fam k6 rr none, .dyn t7 (.lrs s7 ms), .dyn t8 (.lrs s8 ts)], some m => match ps, qs, us with
      | [.int .i64 _ me, .pw .i64 mb, .mapr 3], [.bool _ b, .bool _ r, .bool _ t, .mapr 4, .mapr 5], [.own 6, .own 7] => some ((me, mb, es), ⟨⟨key, b, r, t, ee, rr⟩, ms, ts⟩, m)
      | _, _, _ => none
    | _, _ => none
  | _ => none
def cnPre (t : (Int × List Int × List (Rec × Ob)) × S7 × MsT) : List (BoxSt DB.τ) × List (A0 DB.τ) := (cnX t.1.1 t.1.2.1 t.1.2.2 t.2.1.t t.2.1.ms t.2.1.ts, [.one (.ref 0 0), .one (.ref 1 0), t.2.2.a, .one (.ref 2 0)])
def cnOut (p q : Bool) (h : Int × List Int × List (Rec × Ob)) (s : S7) : List (BoxSt DB.τ) := cnR p q h.1 h.2.1 h.2.2 s.t s.ms s.ts
def heOut (p q : Bool) (h : Int × List Int × List (Rec × Ob)) (s : S7) : List (BoxSt DB.τ) := heR p q h.1 h.2.1 h.2.2 s.t s.ms s.ts
noncomputable def con0Q (q : Bool) := mkF DB Try.f30.ntmps cnRd cnPre (fun t => some (.tup [], cnOut false q t.1 (con2 t.1.2.1 t.2.2 t.2.1).1, [Base7 100000 t.1.2.1 t.2.2 t.2.1, t.2.1.t.r = true, (con2 t.1.2.1 t.2.2 t.2.1).2 = q]))
theorem base_mo {n : Nat} {mb : List Int} {m : MsT} {s : S7} (h : Base7 n mb m s) : mb ≠ [] ∧ mb.length ≤ 1000 := ⟨h.mb0, h.mb1⟩
theorem fF_nat {mb : List Int} (h : mb ≠ []) : fF mb = (((mb.length - 1) / 3 : Nat) : Int) := by
  have hp := List.length_pos_iff.2 h
  unfold fF
  rw [show ((mb.length : Int) - 1) = ((mb.length - 1 : Nat) : Int) by omega, show (3 : Int) = ((3 : Nat) : Int) from rfl, ← Int.ofNat_tdiv]
theorem base_rr {n : Nat} {mb : List Int} {m : MsT} {s : S7} (h : Base7 n mb m s) (hn : n ≤ 1000000) : NotesOK s.t.rr := ⟨Nat.le_trans h.rr.1 hn, h.rr.2⟩
theorem base_ee {n : Nat} {mb : List Int} {m : MsT} {s : S7} (h : Base7 n mb m s) (hn : n ≤ 1000000) : NotesOK s.t.ee := ⟨Nat.le_trans h.ee.1 hn, h.ee.2⟩
theorem con0_ok (q : Bool) : OpOK Try.prog DB 30 (con0Q q) := by
  refine opOK_mkG mixed Try.func30 (enters_of Try.func30 (by kernel_rfl) rfl) ?_
  rintro ⟨⟨me, mb, es⟩, ⟨t, ms, ts⟩, ⟨k, ep, fr, wh, tp, rd, bd⟩⟩ r' bs' ps h hps
  simp only [Option.some.injEq, Prod.mk.injEq] at h
  obtain ⟨rfl, rfl, rfl⟩ := h
  have hb : Base7 100000 mb ⟨k, ep, fr, wh, tp, rd, bd⟩ ⟨t, ms, ts⟩ := hps (Base7 100000 mb ⟨k, ep, fr, wh, tp, rd, bd⟩ ⟨t, ms, ts⟩) (by simp)
  have hr : t.r = true := hps (t.r = true) (by simp)
  have hq : (con2 mb ⟨k, ep, fr, wh, tp, rd, bd⟩ ⟨t, ms, ts⟩).2 = q := hps ((con2 mb ⟨k, ep, fr, wh, tp, rd, bd⟩ ⟨t, ms, ts⟩).2 = q) (by simp)
  have hf := fF_nat hb.mb0
  have hl := hb.mb1
  have h1 := base_mo hb
  have h2 : InI64 ((mb.length : Int) + fF mb) := ⟨by omega, by omega⟩
  have h3 : InI64 (2 * fF mb) := ⟨by omega, by omega⟩
  have h4 := base_rr hb (by decide)
  have hbl := hb.bl
  have hts := hb.ts
  simp only at hbl hts
  show ∃ Γ fuel ds, GamOK Try.prog DB Γ ∧ ∃ qs, runO Try.prog DB Γ fuel Try.f30 (cnX me mb es t ms ts, [.one (.ref 0 0), .one (.ref 1 0), (MsT.mk k ep fr wh tp rd bd).a, .one (.ref 2 0)]) ds (.tup []) (cnOut false q (me, mb, es) (con2 mb ⟨k, ep, fr, wh, tp, rd, bd⟩ ⟨t, ms, ts⟩).1) = some qs ∧ AllQ qs
  subst hq
  cases ht : t.t
  · by_cases hc : 2 * fF mb < cntF t.rr bd
    · rw [con2_yes (s := ⟨t, ms, ts⟩) (m := ⟨k, ep, fr, wh, tp, rd, bd⟩) ht hc]
      exact ⟨_, _, _, gC0_ok, c0_yes me mb es t _ k ep fr wh tp rd bd ms ts _ _ h1 h2 hr ht h4 hb.bd h3 (decide_eq_true hc) (by omega) (by omega) (by omega) rfl rfl rfl rfl rfl rfl rfl rfl⟩
    · rw [con2_no (s := ⟨t, ms, ts⟩) (m := ⟨k, ep, fr, wh, tp, rd, bd⟩) (fun h => hc h.2)]
      exact ⟨_, _, _, gC0_ok, c0_no me mb es t _ k ep fr wh tp rd bd ms ts _ _ h1 h2 hr ht h4 hb.bd h3 (decide_eq_false hc) rfl rfl rfl rfl rfl rfl rfl rfl⟩
  · rw [con2_no (s := ⟨t, ms, ts⟩) (m := ⟨k, ep, fr, wh, tp, rd, bd⟩) (fun h => by have := h.1; rw [show (S7.mk t ms ts).t.t = t.t from rfl, ht] at this; cases this)]
    exact ⟨_, _, _, gC0_ok, c0_told me mb es t _ k ep fr wh tp rd bd ms ts _ _ h1 h2 hr ht rfl rfl rfl rfl rfl rfl rfl rfl⟩
theorem noteM_old {ee : List (Rec × Ob)} {fr : Int} {bd : List Int} (h : hasE ee [.i fr] = true) : noteM ee fr bd = ee := if_pos h
theorem noteM_new {ee : List (Rec × Ob)} {fr : Int} {bd : List Int} (h : hasE ee [.i fr] = false) : noteM ee fr bd = setE ee [.i fr] (noteOb bd) := if_neg (by rw [h]; decide)
theorem noteM_ok {ee : List (Rec × Ob)} {fr : Int} {bd : List Int} {n : Nat} (h : ee.length ≤ n ∧ ∀ e ∈ ee, InB (recW e.2.r 0)) (hb : InB bd) : (noteM ee fr bd).length ≤ n + 1 ∧ ∀ e ∈ noteM ee fr bd, InB (recW e.2.r 0) := by
  cases hh : hasE ee [.i fr]
  · rw [noteM_new hh]
    refine ⟨Nat.le_trans (setE_len ..) (Nat.succ_le_succ h.1), fun e he => ?_⟩
    rcases setE_mem he with he | he
    · rw [he]; exact hb
    · exact h.2 e he
  · rw [noteM_old hh]
    exact ⟨Nat.le_succ_of_le h.1, h.2⟩
theorem Base7.mono {n k : Nat} {mb : List Int} {m : MsT} {s : S7} (h : Base7 n mb m s) (hk : n ≤ k) : Base7 k mb m s := ⟨h.mb0, h.mb1, ⟨Nat.le_trans h.ee.1 hk, h.ee.2⟩, ⟨Nat.le_trans h.rr.1 hk, h.rr.2⟩, h.bd, h.bl, Nat.le_trans h.ms hk, Nat.le_trans h.ts hk⟩
theorem Base7.noteR {n : Nat} {mb : List Int} {m : MsT} {s : S7} (h : Base7 n mb m s) : Base7 (n + 1) mb m ⟨{ s.t with rr := noteM s.t.rr m.fr m.bd }, s.ms, s.ts⟩ :=
  ⟨h.mb0, h.mb1, ⟨Nat.le_succ_of_le h.ee.1, h.ee.2⟩, noteM_ok h.rr h.bd, h.bd, h.bl, Nat.le_succ_of_le h.ms, Nat.le_succ_of_le h.ts⟩
theorem Base7.noteE {n : Nat} {mb : List Int} {m : MsT} {s : S7} (h : Base7 n mb m s) : Base7 (n + 1) mb m ⟨{ s.t with ee := noteM s.t.ee m.fr m.bd }, s.ms, s.ts⟩ :=
  ⟨h.mb0, h.mb1, noteM_ok h.ee h.bd, ⟨Nat.le_succ_of_le h.rr.1, h.rr.2⟩, h.bd, h.bl, Nat.le_succ_of_le h.ms, Nat.le_succ_of_le h.ts⟩
noncomputable def gH0 (q : Bool) : Gam DB := [(26, .op [true, false] countsT), (27, .op [true, false] ofO), (29, .op [true, false] noteQ), (30, .op [true, true, false, true] (con0Q q))]
theorem gH0_ok (q : Bool) : GamOK Try.prog DB (gH0 q) := gam_op countsT_ok (gam_op ofO_ok (gam_op note_ok (gam_op (con0_ok q) gam_nil)))
theorem h0_old (me : Int) (mb : List Int) (es : List (Rec × Ob)) (t t' : TkT) (k ep fr wh tp rd : Int) (bd : List Int) (ms ts ms' ts' : List Rec)
 (h1 : ((List.length mb) ≤ (1000 : Nat)))
 (h2 : ((cntP mb (MsT.mk k ep fr wh tp rd bd)) ∧ (k ≠ (1 : Int))))
 (h3 : ((t).1 = [(Fd.i tp), (Fd.i wh)]))
 (h4 : ((k == (1 : Int)) = false))
 (h5 : ((k == (2 : Int)) = false))
 (h6 : ((k == (3 : Int)) = true))
 (h7 : ((!(hasE (t).6 [(Fd.i fr)])) = false))
 (h8 : ((List.length bd) ≤ (140737488355328 : Nat)))
 (h9 : ((t).1 = (t').1))
 (h10 : (ms = ms'))
 (h11 : (ts = ts'))
 (h12 : ((t).2 = (t').2))
 (h13 : ((t).3 = (t').3))
 (h14 : ((t).4 = (t').4))
 (h15 : ((t).5 = (t').5))
 (h16 : ((noteM (t).6 fr bd) = (t').6)) :
 ∃ ps, runO Try.prog DB (gH0 false) 100 Try.f23 (heX me mb es t ms ts, [.one (.ref 0 0), (MsT.mk k ep fr wh tp rd bd).a, .one (.ref 1 0)]) [.is false, .is false, .is true, .is false] (.tup []) (heR false false me mb es t' ms' ts') = some ps ∧ AllQ ps := ⟨_, by kernel_rfl, qc (er k) (qc (er ep) (qc (er fr) (qc (er wh) (qc (er tp) (qc (er rd) (qc (er bd) (qc (er me) (qc (er mb) (qc (er ((t).1)) (qc (er es) (qc (er ((t).2)) (qc (er ((t).3)) (qc (er ((t).4)) (qc (er ((t).5)) (qc (er ((t).6)) (qc h1 (qc h2 (qc (er k) (qc (er ep) (qc (er fr) (qc (er wh) (qc (er tp) (qc (er rd) (qc (er bd) (qc (er me) (qc (er mb) (qc (er ((t).1)) (qc (er es) (qc (er ((t).2)) (qc (er ((t).3)) (qc (er ((t).4)) (qc (er ((t).5)) (qc (er ((t).6)) (qc h3 (qc h4 (qc h5 (qc h6 (qc h7 (qc (er k) (qc (er ep) (qc (er fr) (qc (er wh) (qc (er tp) (qc (er rd) (qc (er bd) (qc (er ((t).6)) (qc h8 (qc (er me) (qc (er mb) (qc h9 (qc (er es) (qc h10 (qc h11 (qc h12 (qc h13 (qc h14 (qc h15 (qc h16 (qn)))))))))))))))))))))))))))))))))))))))))))))))))))))))))))⟩
theorem h0_newF (me : Int) (mb : List Int) (es : List (Rec × Ob)) (t t' : TkT) (k ep fr wh tp rd : Int) (bd : List Int) (ms ts ms' ts' : List Rec)
 (h1 : ((List.length mb) ≤ (1000 : Nat)))
 (h2 : ((cntP mb (MsT.mk k ep fr wh tp rd bd)) ∧ (k ≠ (1 : Int))))
 (h3 : ((t).1 = [(Fd.i tp), (Fd.i wh)]))
 (h4 : ((k == (1 : Int)) = false))
 (h5 : ((k == (2 : Int)) = false))
 (h6 : ((k == (3 : Int)) = true))
 (h7 : ((!(hasE (t).6 [(Fd.i fr)])) = true))
 (h8 : ((List.length bd) ≤ (140737488355328 : Nat)))
 (h9 : (Base7 (100000 : Nat) mb (MsT.mk k ep fr wh tp rd bd) (S7.mk (TkT.mk (t).1 (t).2 (t).3 (t).4 (t).5 (noteM (t).6 fr bd)) ms ts)))
 (h10 : ((t).3 = true))
 (h11 : (((con2 mb (MsT.mk k ep fr wh tp rd bd) (S7.mk (TkT.mk (t).1 (t).2 (t).3 (t).4 (t).5 (noteM (t).6 fr bd)) ms ts))).2 = false))
 (h12 : (((((con2 mb (MsT.mk k ep fr wh tp rd bd) (S7.mk (TkT.mk (t).1 (t).2 (t).3 (t).4 (t).5 (noteM (t).6 fr bd)) ms ts))).1).1).1 = (t').1))
 (h13 : ((((con2 mb (MsT.mk k ep fr wh tp rd bd) (S7.mk (TkT.mk (t).1 (t).2 (t).3 (t).4 (t).5 (noteM (t).6 fr bd)) ms ts))).1).2 = ms'))
 (h14 : ((((con2 mb (MsT.mk k ep fr wh tp rd bd) (S7.mk (TkT.mk (t).1 (t).2 (t).3 (t).4 (t).5 (noteM (t).6 fr bd)) ms ts))).1).3 = ts'))
 (h15 : (((((con2 mb (MsT.mk k ep fr wh tp rd bd) (S7.mk (TkT.mk (t).1 (t).2 (t).3 (t).4 (t).5 (noteM (t).6 fr bd)) ms ts))).1).1).2 = (t').2))
 (h16 : (((((con2 mb (MsT.mk k ep fr wh tp rd bd) (S7.mk (TkT.mk (t).1 (t).2 (t).3 (t).4 (t).5 (noteM (t).6 fr bd)) ms ts))).1).1).3 = (t').3))
 (h17 : (((((con2 mb (MsT.mk k ep fr wh tp rd bd) (S7.mk (TkT.mk (t).1 (t).2 (t).3 (t).4 (t).5 (noteM (t).6 fr bd)) ms ts))).1).1).4 = (t').4))
 (h18 : (((((con2 mb (MsT.mk k ep fr wh tp rd bd) (S7.mk (TkT.mk (t).1 (t).2 (t).3 (t).4 (t).5 (noteM (t).6 fr bd)) ms ts))).1).1).5 = (t').5))
 (h19 : (((((con2 mb (MsT.mk k ep fr wh tp rd bd) (S7.mk (TkT.mk (t).1 (t).2 (t).3 (t).4 (t).5 (noteM (t).6 fr bd)) ms ts))).1).1).6 = (t').6)) :
 ∃ ps, runO Try.prog DB (gH0 false) 100 Try.f23 (heX me mb es t ms ts, [.one (.ref 0 0), (MsT.mk k ep fr wh tp rd bd).a, .one (.ref 1 0)]) [.is false, .is false, .is true, .is true] (.tup []) (heR false false me mb es t' ms' ts') = some ps ∧ AllQ ps := ⟨_, by kernel_rfl, qc (er k) (qc (er ep) (qc (er fr) (qc (er wh) (qc (er tp) (qc (er rd) (qc (er bd) (qc (er me) (qc (er mb) (qc (er ((t).1)) (qc (er es) (qc (er ((t).2)) (qc (er ((t).3)) (qc (er ((t).4)) (qc (er ((t).5)) (qc (er ((t).6)) (qc h1 (qc h2 (qc (er k) (qc (er ep) (qc (er fr) (qc (er wh) (qc (er tp) (qc (er rd) (qc (er bd) (qc (er me) (qc (er mb) (qc (er ((t).1)) (qc (er es) (qc (er ((t).2)) (qc (er ((t).3)) (qc (er ((t).4)) (qc (er ((t).5)) (qc (er ((t).6)) (qc h3 (qc h4 (qc h5 (qc h6 (qc h7 (qc (er k) (qc (er ep) (qc (er fr) (qc (er wh) (qc (er tp) (qc (er rd) (qc (er bd) (qc (er ((t).6)) (qc h8 (qc (er k) (qc (er ep) (qc (er fr) (qc (er wh) (qc (er tp) (qc (er rd) (qc (er bd) (qc (er me) (qc (er mb) (qc (er ((t).2)) (qc (er ((t).3)) (qc (er ((t).4)) (qc (er ((t).1)) (qc (er es) (qc (er ((t).5)) (qc (er ((noteM (t).6 fr bd))) (qc (er ms) (qc (er ts) (qc h9 (qc h10 (qc h11 (qc (er me) (qc (er mb) (qc h12 (qc (er es) (qc h13 (qc h14 (qc h15 (qc h16 (qc h17 (qc h18 (qc h19 (qn))))))))))))))))))))))))))))))))))))))))))))))))))))))))))))))))))))))))))))))))⟩
theorem h0_newT (me : Int) (mb : List Int) (es : List (Rec × Ob)) (t t' : TkT) (k ep fr wh tp rd : Int) (bd : List Int) (ms ts ms' ts' : List Rec)
 (h1 : ((List.length mb) ≤ (1000 : Nat)))
 (h2 : ((cntP mb (MsT.mk k ep fr wh tp rd bd)) ∧ (k ≠ (1 : Int))))
 (h3 : ((t).1 = [(Fd.i tp), (Fd.i wh)]))
 (h4 : ((k == (1 : Int)) = false))
 (h5 : ((k == (2 : Int)) = false))
 (h6 : ((k == (3 : Int)) = true))
 (h7 : ((!(hasE (t).6 [(Fd.i fr)])) = true))
 (h8 : ((List.length bd) ≤ (140737488355328 : Nat)))
 (h9 : (Base7 (100000 : Nat) mb (MsT.mk k ep fr wh tp rd bd) (S7.mk (TkT.mk (t).1 (t).2 (t).3 (t).4 (t).5 (noteM (t).6 fr bd)) ms ts)))
 (h10 : ((t).3 = true))
 (h11 : (((con2 mb (MsT.mk k ep fr wh tp rd bd) (S7.mk (TkT.mk (t).1 (t).2 (t).3 (t).4 (t).5 (noteM (t).6 fr bd)) ms ts))).2 = true))
 (h12 : (((((con2 mb (MsT.mk k ep fr wh tp rd bd) (S7.mk (TkT.mk (t).1 (t).2 (t).3 (t).4 (t).5 (noteM (t).6 fr bd)) ms ts))).1).1).1 = (t').1))
 (h13 : ((((con2 mb (MsT.mk k ep fr wh tp rd bd) (S7.mk (TkT.mk (t).1 (t).2 (t).3 (t).4 (t).5 (noteM (t).6 fr bd)) ms ts))).1).2 = ms'))
 (h14 : (((((con2 mb (MsT.mk k ep fr wh tp rd bd) (S7.mk (TkT.mk (t).1 (t).2 (t).3 (t).4 (t).5 (noteM (t).6 fr bd)) ms ts))).1).1).2 = (t').2))
 (h15 : (((((con2 mb (MsT.mk k ep fr wh tp rd bd) (S7.mk (TkT.mk (t).1 (t).2 (t).3 (t).4 (t).5 (noteM (t).6 fr bd)) ms ts))).1).1).3 = (t').3))
 (h16 : (((((con2 mb (MsT.mk k ep fr wh tp rd bd) (S7.mk (TkT.mk (t).1 (t).2 (t).3 (t).4 (t).5 (noteM (t).6 fr bd)) ms ts))).1).1).4 = (t').4))
 (h17 : (((((con2 mb (MsT.mk k ep fr wh tp rd bd) (S7.mk (TkT.mk (t).1 (t).2 (t).3 (t).4 (t).5 (noteM (t).6 fr bd)) ms ts))).1).1).5 = (t').5))
 (h18 : (((((con2 mb (MsT.mk k ep fr wh tp rd bd) (S7.mk (TkT.mk (t).1 (t).2 (t).3 (t).4 (t).5 (noteM (t).6 fr bd)) ms ts))).1).1).6 = (t').6))
 (h19 : ((((con2 mb (MsT.mk k ep fr wh tp rd bd) (S7.mk (TkT.mk (t).1 (t).2 (t).3 (t).4 (t).5 (noteM (t).6 fr bd)) ms ts))).1).3 = ts')) :
 ∃ ps, runO Try.prog DB (gH0 true) 100 Try.f23 (heX me mb es t ms ts, [.one (.ref 0 0), (MsT.mk k ep fr wh tp rd bd).a, .one (.ref 1 0)]) [.is false, .is false, .is true, .is true] (.tup []) (heR false true me mb es t' ms' ts') = some ps ∧ AllQ ps := ⟨_, by kernel_rfl, qc (er k) (qc (er ep) (qc (er fr) (qc (er wh) (qc (er tp) (qc (er rd) (qc (er bd) (qc (er me) (qc (er mb) (qc (er ((t).1)) (qc (er es) (qc (er ((t).2)) (qc (er ((t).3)) (qc (er ((t).4)) (qc (er ((t).5)) (qc (er ((t).6)) (qc h1 (qc h2 (qc (er k) (qc (er ep) (qc (er fr) (qc (er wh) (qc (er tp) (qc (er rd) (qc (er bd) (qc (er me) (qc (er mb) (qc (er ((t).1)) (qc (er es) (qc (er ((t).2)) (qc (er ((t).3)) (qc (er ((t).4)) (qc (er ((t).5)) (qc (er ((t).6)) (qc h3 (qc h4 (qc h5 (qc h6 (qc h7 (qc (er k) (qc (er ep) (qc (er fr) (qc (er wh) (qc (er tp) (qc (er rd) (qc (er bd) (qc (er ((t).6)) (qc h8 (qc (er k) (qc (er ep) (qc (er fr) (qc (er wh) (qc (er tp) (qc (er rd) (qc (er bd) (qc (er me) (qc (er mb) (qc (er ((t).2)) (qc (er ((t).3)) (qc (er ((t).4)) (qc (er ((t).1)) (qc (er es) (qc (er ((t).5)) (qc (er ((noteM (t).6 fr bd))) (qc (er ms) (qc (er ts) (qc h9 (qc h10 (qc h11 (qc (er me) (qc (er mb) (qc h12 (qc (er es) (qc h13 (qc h14 (qc h15 (qc h16 (qc h17 (qc h18 (qc h19 (qn))))))))))))))))))))))))))))))))))))))))))))))))))))))))))))))))))))))))))))))))⟩
def hear0M (mb : List Int) (m : MsT) (s : S7) : S7 × Bool :=
  if hasE s.t.rr [.i m.fr] = true then (s, false) else con2 mb m ⟨{ s.t with rr := noteM s.t.rr m.fr m.bd }, s.ms, s.ts⟩
def heRd (bs : List (BoxSt DB.τ)) : List (A0 DB.τ) → Option ((Int × List Int × List (Rec × Ob)) × S7 × MsT)
  | [.one (.ref 0 0), x, .one (.ref 1 0)] => match bs, msRd x with
    | [.fixed t1 ps, .fixed t2 us, .fam k4 es (some (key, [.ref 5 0])), .dyn t7 (.lrs s7 ms), .dyn t8 (.lrs s8 ts), .fixed t3 qs, .fam k5 ee none, .fam k6 rr none], some m => match ps, qs, us with
      | [.int .i64 _ me, .pw .i64 mb, .mapr 2], [.bool _ b, .bool _ r, .bool _ t, .mapr 6, .mapr 7], [.own 3, .own 4] => some ((me, mb, es), ⟨⟨key, b, r, t, ee, rr⟩, ms, ts⟩, m)
      | _, _, _ => none
    | _, _ => none
  | _ => none
def hePre (t : (Int × List Int × List (Rec × Ob)) × S7 × MsT) : List (BoxSt DB.τ) × List (A0 DB.τ) := (heX t.1.1 t.1.2.1 t.1.2.2 t.2.1.t t.2.1.ms t.2.1.ts, [.one (.ref 0 0), t.2.2.a, .one (.ref 1 0)])
noncomputable def hear0Q (q : Bool) := mkF DB Try.f23.ntmps heRd hePre (fun t => some (.tup [], heOut false q t.1 (hear0M t.1.2.1 t.2.2 t.2.1).1, [Base7 90000 t.1.2.1 t.2.2 t.2.1, t.2.1.t.r = true ∧ t.2.1.t.key = t.2.2.key, cntP t.1.2.1 t.2.2 ∧ t.2.2.k = 3, (hear0M t.1.2.1 t.2.2 t.2.1).2 = q]))
theorem hear0_old {mb : List Int} {m : MsT} {s : S7} (h : hasE s.t.rr [.i m.fr] = true) : hear0M mb m s = (s, false) := if_pos h
theorem hear0_new {mb : List Int} {m : MsT} {s : S7} (h : hasE s.t.rr [.i m.fr] = false) : hear0M mb m s = con2 mb m ⟨{ s.t with rr := noteM s.t.rr m.fr m.bd }, s.ms, s.ts⟩ := if_neg (by rw [h]; decide)
theorem hear0_ok (q : Bool) : OpOK Try.prog DB 23 (hear0Q q) := by
  refine opOK_mkG mixed Try.func23 (enters_of Try.func23 (by kernel_rfl) rfl) ?_
  rintro ⟨⟨me, mb, es⟩, ⟨t, ms, ts⟩, ⟨k, ep, fr, wh, tp, rd, bd⟩⟩ r' bs' ps h hps
  simp only [Option.some.injEq, Prod.mk.injEq] at h
  obtain ⟨rfl, rfl, rfl⟩ := h
  have hb : Base7 90000 mb ⟨k, ep, fr, wh, tp, rd, bd⟩ ⟨t, ms, ts⟩ := hps (Base7 90000 mb ⟨k, ep, fr, wh, tp, rd, bd⟩ ⟨t, ms, ts⟩) (by simp)
  obtain ⟨hr, hk⟩ : t.r = true ∧ t.key = [.i tp, .i wh] := hps (t.r = true ∧ t.key = [.i tp, .i wh]) (by simp [MsT.key])
  obtain ⟨hc, hk3⟩ : cntP mb ⟨k, ep, fr, wh, tp, rd, bd⟩ ∧ k = 3 := hps (cntP mb ⟨k, ep, fr, wh, tp, rd, bd⟩ ∧ k = 3) (by simp)
  have hq : (hear0M mb ⟨k, ep, fr, wh, tp, rd, bd⟩ ⟨t, ms, ts⟩).2 = q := hps ((hear0M mb ⟨k, ep, fr, wh, tp, rd, bd⟩ ⟨t, ms, ts⟩).2 = q) (by simp)
  have hbl := hb.bl
  simp only at hbl
  have c1 : (k == 1) = false := beq_eq_false_iff_ne.2 (by omega)
  have c2 : (k == 2) = false := beq_eq_false_iff_ne.2 (by omega)
  have c3 : (k == 3) = true := beq_iff_eq.2 hk3
  show ∃ Γ fuel ds, GamOK Try.prog DB Γ ∧ ∃ qs, runO Try.prog DB Γ fuel Try.f23 (heX me mb es t ms ts, [.one (.ref 0 0), (MsT.mk k ep fr wh tp rd bd).a, .one (.ref 1 0)]) ds (.tup []) (heOut false q (me, mb, es) (hear0M mb ⟨k, ep, fr, wh, tp, rd, bd⟩ ⟨t, ms, ts⟩).1) = some qs ∧ AllQ qs
  subst hq
  cases hh : hasE t.rr [.i fr]
  · rw [hear0_new (s := ⟨t, ms, ts⟩) (m := ⟨k, ep, fr, wh, tp, rd, bd⟩) hh]
    have hb1 := hb.noteR.mono (show 90000 + 1 ≤ 100000 by decide)
    have hn : (!hasE t.rr [.i fr]) = true := by rw [hh]; rfl
    cases hq : (con2 mb ⟨k, ep, fr, wh, tp, rd, bd⟩ ⟨{ t with rr := noteM t.rr fr bd }, ms, ts⟩).2
    · exact ⟨_, _, _, gH0_ok false, h0_newF me mb es t _ k ep fr wh tp rd bd ms ts _ _ hb.mb1 ⟨hc, by omega⟩ hk c1 c2 c3 hn (by omega) hb1 hr hq rfl rfl rfl rfl rfl rfl rfl rfl⟩
    · exact ⟨_, _, _, gH0_ok true, h0_newT me mb es t _ k ep fr wh tp rd bd ms ts _ _ hb.mb1 ⟨hc, by omega⟩ hk c1 c2 c3 hn (by omega) hb1 hr hq rfl rfl rfl rfl rfl rfl rfl rfl⟩
  · rw [hear0_old (s := ⟨t, ms, ts⟩) (m := ⟨k, ep, fr, wh, tp, rd, bd⟩) hh]
    exact ⟨_, _, _, gH0_ok false, h0_old me mb es t _ k ep fr wh tp rd bd ms ts _ _ hb.mb1 ⟨hc, by omega⟩ hk c1 c2 c3 (by rw [hh]; rfl) (by omega) rfl rfl rfl rfl rfl rfl rfl (noteM_old hh)⟩
noncomputable def gS0 (q : Bool) : Gam DB := [(24, .fz clB7), (23, .op [true, false, true] (hear0Q q))]
theorem gS0_ok (q : Bool) : GamOK Try.prog DB (gS0 q) := gam_fz clB7_ok (gam_op (hear0_ok q) gam_nil)
theorem s0_F (me : Int) (mb : List Int) (es : List (Rec × Ob)) (t t' : TkT) (k ep fr wh tp rd : Int) (bd : List Int) (ms ts ms' ts' : List Rec)
 (h1 : ((List.length bd) ≤ (140737488355328 : Nat)))
 (h2 : ((((List.length ms) + (1 : Nat)) * (72 : Nat)) ≤ (140737488355328 : Nat)))
 (h3 : (((List.length ms) + (1 : Nat)) ≤ (9223372036854775807 : Nat)))
 (h4 : (Base7 (90000 : Nat) mb (MsT.mk (3 : Int) (0 : Int) me wh tp (0 : Int) bd) (S7.mk t (ms ++ [[(Fd.i (3 : Int)), (Fd.i (0 : Int)), (Fd.i me), (Fd.i wh), (Fd.i tp), (Fd.i (0 : Int)), (Fd.w bd)]]) ts)))
 (h5 : (((t).3 = true) ∧ ((t).1 = [(Fd.i tp), (Fd.i wh)])))
 (h6 : ((cntP mb (MsT.mk (3 : Int) (0 : Int) me wh tp (0 : Int) bd)) ∧ ((3 : Int) = (3 : Int))))
 (h7 : (((hear0M mb (MsT.mk (3 : Int) (0 : Int) me wh tp (0 : Int) bd) (S7.mk t (ms ++ [[(Fd.i (3 : Int)), (Fd.i (0 : Int)), (Fd.i me), (Fd.i wh), (Fd.i tp), (Fd.i (0 : Int)), (Fd.w bd)]]) ts))).2 = false))
 (h8 : (((((hear0M mb (MsT.mk (3 : Int) (0 : Int) me wh tp (0 : Int) bd) (S7.mk t (ms ++ [[(Fd.i (3 : Int)), (Fd.i (0 : Int)), (Fd.i me), (Fd.i wh), (Fd.i tp), (Fd.i (0 : Int)), (Fd.w bd)]]) ts))).1).1).1 = (t').1))
 (h9 : ((((hear0M mb (MsT.mk (3 : Int) (0 : Int) me wh tp (0 : Int) bd) (S7.mk t (ms ++ [[(Fd.i (3 : Int)), (Fd.i (0 : Int)), (Fd.i me), (Fd.i wh), (Fd.i tp), (Fd.i (0 : Int)), (Fd.w bd)]]) ts))).1).3 = ts'))
 (h10 : (((((hear0M mb (MsT.mk (3 : Int) (0 : Int) me wh tp (0 : Int) bd) (S7.mk t (ms ++ [[(Fd.i (3 : Int)), (Fd.i (0 : Int)), (Fd.i me), (Fd.i wh), (Fd.i tp), (Fd.i (0 : Int)), (Fd.w bd)]]) ts))).1).1).2 = (t').2))
 (h11 : (((((hear0M mb (MsT.mk (3 : Int) (0 : Int) me wh tp (0 : Int) bd) (S7.mk t (ms ++ [[(Fd.i (3 : Int)), (Fd.i (0 : Int)), (Fd.i me), (Fd.i wh), (Fd.i tp), (Fd.i (0 : Int)), (Fd.w bd)]]) ts))).1).1).3 = (t').3))
 (h12 : (((((hear0M mb (MsT.mk (3 : Int) (0 : Int) me wh tp (0 : Int) bd) (S7.mk t (ms ++ [[(Fd.i (3 : Int)), (Fd.i (0 : Int)), (Fd.i me), (Fd.i wh), (Fd.i tp), (Fd.i (0 : Int)), (Fd.w bd)]]) ts))).1).1).4 = (t').4))
 (h13 : (((((hear0M mb (MsT.mk (3 : Int) (0 : Int) me wh tp (0 : Int) bd) (S7.mk t (ms ++ [[(Fd.i (3 : Int)), (Fd.i (0 : Int)), (Fd.i me), (Fd.i wh), (Fd.i tp), (Fd.i (0 : Int)), (Fd.w bd)]]) ts))).1).1).5 = (t').5))
 (h14 : (((((hear0M mb (MsT.mk (3 : Int) (0 : Int) me wh tp (0 : Int) bd) (S7.mk t (ms ++ [[(Fd.i (3 : Int)), (Fd.i (0 : Int)), (Fd.i me), (Fd.i wh), (Fd.i tp), (Fd.i (0 : Int)), (Fd.w bd)]]) ts))).1).1).6 = (t').6))
 (h15 : ((((hear0M mb (MsT.mk (3 : Int) (0 : Int) me wh tp (0 : Int) bd) (S7.mk t (ms ++ [[(Fd.i (3 : Int)), (Fd.i (0 : Int)), (Fd.i me), (Fd.i wh), (Fd.i tp), (Fd.i (0 : Int)), (Fd.w bd)]]) ts))).1).2 = ms')) :
 ∃ ps, runO Try.prog DB (gS0 false) 100 Try.f28 (heX me mb es t ms ts, [.one (.ref 0 0), .one (.int .i64 false 3), (MsT.mk k ep fr wh tp rd bd).a, .one (.ref 1 0)]) [] (.tup []) (heR true false me mb es t' ms' ts') = some ps ∧ AllQ ps := ⟨_, by kernel_rfl, qc h1 (qc h2 (qc h3 (qc (er ((3 : Int))) (qc (er ((0 : Int))) (qc (er me) (qc (er wh) (qc (er tp) (qc (er ((0 : Int))) (qc (er bd) (qc (er me) (qc (er mb) (qc (er ((t).1)) (qc (er es) (qc (er ((ms ++ [[(Fd.i (3 : Int)), (Fd.i (0 : Int)), (Fd.i me), (Fd.i wh), (Fd.i tp), (Fd.i (0 : Int)), (Fd.w bd)]]))) (qc (er ts) (qc (er ((t).2)) (qc (er ((t).3)) (qc (er ((t).4)) (qc (er ((t).5)) (qc (er ((t).6)) (qc h4 (qc h5 (qc h6 (qc h7 (qc (er me) (qc (er mb) (qc h8 (qc (er es) (qc h9 (qc h10 (qc h11 (qc h12 (qc h13 (qc h14 (qc h15 (qn))))))))))))))))))))))))))))))))))))⟩
theorem s0_T (me : Int) (mb : List Int) (es : List (Rec × Ob)) (t t' : TkT) (k ep fr wh tp rd : Int) (bd : List Int) (ms ts ms' ts' : List Rec)
 (h1 : ((List.length bd) ≤ (140737488355328 : Nat)))
 (h2 : ((((List.length ms) + (1 : Nat)) * (72 : Nat)) ≤ (140737488355328 : Nat)))
 (h3 : (((List.length ms) + (1 : Nat)) ≤ (9223372036854775807 : Nat)))
 (h4 : (Base7 (90000 : Nat) mb (MsT.mk (3 : Int) (0 : Int) me wh tp (0 : Int) bd) (S7.mk t (ms ++ [[(Fd.i (3 : Int)), (Fd.i (0 : Int)), (Fd.i me), (Fd.i wh), (Fd.i tp), (Fd.i (0 : Int)), (Fd.w bd)]]) ts)))
 (h5 : (((t).3 = true) ∧ ((t).1 = [(Fd.i tp), (Fd.i wh)])))
 (h6 : ((cntP mb (MsT.mk (3 : Int) (0 : Int) me wh tp (0 : Int) bd)) ∧ ((3 : Int) = (3 : Int))))
 (h7 : (((hear0M mb (MsT.mk (3 : Int) (0 : Int) me wh tp (0 : Int) bd) (S7.mk t (ms ++ [[(Fd.i (3 : Int)), (Fd.i (0 : Int)), (Fd.i me), (Fd.i wh), (Fd.i tp), (Fd.i (0 : Int)), (Fd.w bd)]]) ts))).2 = true))
 (h8 : (((((hear0M mb (MsT.mk (3 : Int) (0 : Int) me wh tp (0 : Int) bd) (S7.mk t (ms ++ [[(Fd.i (3 : Int)), (Fd.i (0 : Int)), (Fd.i me), (Fd.i wh), (Fd.i tp), (Fd.i (0 : Int)), (Fd.w bd)]]) ts))).1).1).1 = (t').1))
 (h9 : (((((hear0M mb (MsT.mk (3 : Int) (0 : Int) me wh tp (0 : Int) bd) (S7.mk t (ms ++ [[(Fd.i (3 : Int)), (Fd.i (0 : Int)), (Fd.i me), (Fd.i wh), (Fd.i tp), (Fd.i (0 : Int)), (Fd.w bd)]]) ts))).1).1).2 = (t').2))
 (h10 : (((((hear0M mb (MsT.mk (3 : Int) (0 : Int) me wh tp (0 : Int) bd) (S7.mk t (ms ++ [[(Fd.i (3 : Int)), (Fd.i (0 : Int)), (Fd.i me), (Fd.i wh), (Fd.i tp), (Fd.i (0 : Int)), (Fd.w bd)]]) ts))).1).1).3 = (t').3))
 (h11 : (((((hear0M mb (MsT.mk (3 : Int) (0 : Int) me wh tp (0 : Int) bd) (S7.mk t (ms ++ [[(Fd.i (3 : Int)), (Fd.i (0 : Int)), (Fd.i me), (Fd.i wh), (Fd.i tp), (Fd.i (0 : Int)), (Fd.w bd)]]) ts))).1).1).4 = (t').4))
 (h12 : (((((hear0M mb (MsT.mk (3 : Int) (0 : Int) me wh tp (0 : Int) bd) (S7.mk t (ms ++ [[(Fd.i (3 : Int)), (Fd.i (0 : Int)), (Fd.i me), (Fd.i wh), (Fd.i tp), (Fd.i (0 : Int)), (Fd.w bd)]]) ts))).1).1).5 = (t').5))
 (h13 : (((((hear0M mb (MsT.mk (3 : Int) (0 : Int) me wh tp (0 : Int) bd) (S7.mk t (ms ++ [[(Fd.i (3 : Int)), (Fd.i (0 : Int)), (Fd.i me), (Fd.i wh), (Fd.i tp), (Fd.i (0 : Int)), (Fd.w bd)]]) ts))).1).1).6 = (t').6))
 (h14 : ((((hear0M mb (MsT.mk (3 : Int) (0 : Int) me wh tp (0 : Int) bd) (S7.mk t (ms ++ [[(Fd.i (3 : Int)), (Fd.i (0 : Int)), (Fd.i me), (Fd.i wh), (Fd.i tp), (Fd.i (0 : Int)), (Fd.w bd)]]) ts))).1).2 = ms'))
 (h15 : ((((hear0M mb (MsT.mk (3 : Int) (0 : Int) me wh tp (0 : Int) bd) (S7.mk t (ms ++ [[(Fd.i (3 : Int)), (Fd.i (0 : Int)), (Fd.i me), (Fd.i wh), (Fd.i tp), (Fd.i (0 : Int)), (Fd.w bd)]]) ts))).1).3 = ts')) :
 ∃ ps, runO Try.prog DB (gS0 true) 100 Try.f28 (heX me mb es t ms ts, [.one (.ref 0 0), .one (.int .i64 false 3), (MsT.mk k ep fr wh tp rd bd).a, .one (.ref 1 0)]) [] (.tup []) (heR true true me mb es t' ms' ts') = some ps ∧ AllQ ps := ⟨_, by kernel_rfl, qc h1 (qc h2 (qc h3 (qc (er ((3 : Int))) (qc (er ((0 : Int))) (qc (er me) (qc (er wh) (qc (er tp) (qc (er ((0 : Int))) (qc (er bd) (qc (er me) (qc (er mb) (qc (er ((t).1)) (qc (er es) (qc (er ((ms ++ [[(Fd.i (3 : Int)), (Fd.i (0 : Int)), (Fd.i me), (Fd.i wh), (Fd.i tp), (Fd.i (0 : Int)), (Fd.w bd)]]))) (qc (er ts) (qc (er ((t).2)) (qc (er ((t).3)) (qc (er ((t).4)) (qc (er ((t).5)) (qc (er ((t).6)) (qc h4 (qc h5 (qc h6 (qc h7 (qc (er me) (qc (er mb) (qc h8 (qc (er es) (qc h9 (qc h10 (qc h11 (qc h12 (qc h13 (qc h14 (qc h15 (qn))))))))))))))))))))))))))))))))))))⟩
def sayM (me k : Int) (m : MsT) : MsT := ⟨k, 0, me, m.wh, m.tp, 0, m.bd⟩
def say0M (me : Int) (mb : List Int) (m : MsT) (s : S7) : S7 × Bool := hear0M mb (sayM me 3 m) ⟨s.t, s.ms ++ [(sayM me 3 m).r], s.ts⟩
end Go.Num

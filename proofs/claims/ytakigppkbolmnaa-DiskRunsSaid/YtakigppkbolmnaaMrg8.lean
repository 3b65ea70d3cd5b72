/- Several texts put together: Lib Copy Same Loop DA D1 D2 Range D3 D4 Iter D5 D6 D7. -/
import Derived.Test.YtakigppkbolmnaaMrg7
import Derived.Test.YtakigppkbolmnaaProg
import Derived.Shelf.Abstract
import Derived.MapKept
import Derived.Maps.RangeWalk
import Derived.Shelf.SlIter.Nil
import Derived.Shelf.SortM.Plain
import Derived.Shelf.SortM.SortNone
import Derived.Ground.GgzProg
import Derived.Ground.SlgmProg
namespace Go.Num
open Go.Abs Go.Proofs Go.Shelf
theorem gam_nil {P : Program} {D : Dom} : GamOK P D [] := fun x hx => by cases hx
theorem gam_cons {P : Program} {D : Dom} {f : FuncId} {F : FnD D} {Γ : Gam D} (h : FnOK P D f F) (k : GamOK P D Γ) : GamOK P D ((f, .fn F) :: Γ) := by
  intro x hx
  rcases List.mem_cons.1 hx with rfl | hx
  · exact h
  · exact k x hx
theorem gam_op {P : Program} {D : Dom} {f : FuncId} {ms : List Bool} {F : List (BoxSt D.τ) → List (A0 D.τ) → Option (AV D.τ × List (BoxSt D.τ) × List Prop)} {Γ : Gam D} (h : OpOK P D f F) (k : GamOK P D Γ) : GamOK P D ((f, .op ms F) :: Γ) := by
  intro x hx
  rcases List.mem_cons.1 hx with rfl | hx
  · exact h
  · exact k x hx
theorem gam_rd {P : Program} {D : Dom} {f : FuncId} {ms : List Bool} {F : List (BoxSt D.τ) → List (A0 D.τ) → Option (AV D.τ × List (BoxSt D.τ) × List Prop)} {Γ : Gam D} (h : OpOK P D f (withNew F)) (k : GamOK P D Γ) : GamOK P D ((f, .rd ms F) :: Γ) := by
  intro x hx
  rcases List.mem_cons.1 hx with rfl | hx
  · exact h
  · exact k x hx
theorem gam_fz {P : Program} {D : Dom} {f : FuncId} {F : FnD D} {Γ : Gam D} (h : FnOK P D f F) (k : GamOK P D Γ) : GamOK P D ((f, .fz F) :: Γ) := by
  intro x hx
  rcases List.mem_cons.1 hx with rfl | hx
  · exact h
  · exact k x hx
def freezeD (D : Dom) (l : List Int) : FnD D
  | [.one (.int _ _ n)] => bif l.any (fun m => decide (n = m)) then some (.tup [], [False]) else none
  | _ => none
theorem gam_freeze {P : Program} {D : Dom} {l : List Int} {Γ : Gam D} (k : GamOK P D Γ) : GamOK P D ((freezeId, .fn (freezeD D l)) :: Γ) := by
  refine gam_cons (fun xs r ps h hps => ?_) k
  unfold freezeD at h
  split at h
  · rename_i n
    cases hb : l.any (fun m => decide (n = m)) <;> simp only [hb, cond_true, cond_false] at h
    · cases h
    · simp only [Option.some.injEq, Prod.mk.injEq] at h
      obtain ⟨_, rfl⟩ := h
      exact (hps False (by simp)).elim
  · cases h
def lookD (D : Dom) (l : List (Int × Int)) : FnD D
  | [.one (.int _ _ n)] => match l.find? (fun x => decide (x.1 = n)) with
    | some x => some (.v (.one (.int .i64 true x.2)), [False])
    | none => none
  | _ => none
theorem gam_look {P : Program} {D : Dom} {l : List (Int × Int)} {Γ : Gam D} (k : GamOK P D Γ) : GamOK P D ((lookId, .fn (lookD D l)) :: Γ) := by
  refine gam_cons (fun xs r ps h hps => ?_) k
  unfold lookD at h
  split at h
  · split at h
    · simp only [Option.some.injEq, Prod.mk.injEq] at h
      obtain ⟨_, rfl⟩ := h
      exact (hps False (by simp)).elim
    · cases h
  · cases h
theorem mixed : Try.prog.follows .mixedOrders = true := by kernel_rfl
theorem qn : AllQ [] := fun p hp => by cases hp
theorem qc {p : Prop} {ps : List Prop} (h : p) (k : AllQ ps) : AllQ (p :: ps) := by
  intro q hq
  rcases List.mem_cons.1 hq with rfl | hq
  · exact h
  · exact k q hq
theorem one_bool {D : Dom} {E : Env} {b c x y : Bool} {v : Value} (h : x = y) (hv : A0Rel D E (.one (.bool b x)) v) : A0Rel D E (.one (.bool c y)) v := by rw [← h]; exact hv
def loopOf : Nat → Code → Option Code
  | 0, _ => none
  | f + 1, c => match c with
    | .loop a => some a
    | .seq a b => match loopOf f a with
      | some x => some x
      | none => loopOf f b
    | .block _ a => loopOf f a
    | .scope a => loopOf f a
    | .cond _ a b => match loopOf f a with
      | some x => some x
      | none => loopOf f b
    | _ => none
noncomputable def bodyOf (fn : Func) : Code :=
  match fn.body with
  | some c => (match loopOf 100 c with | some a => a | none => .skip)
  | none => .skip
def loopsOf : Nat → Code → List Code
  | 0, _ => []
  | f + 1, c => match c with
    | .loop a => a :: loopsOf f a
    | .seq a b => loopsOf f a ++ loopsOf f b
    | .block _ a => loopsOf f a
    | .scope a => loopsOf f a
    | .cond _ a b => loopsOf f a ++ loopsOf f b
    | _ => []
noncomputable def bodyN (fn : Func) (k : Nat) : Code :=
  match fn.body with
  | some c => (loopsOf 200 c).getD k .skip
  | none => .skip
def nilν : Nat → Value := fun _ => .slice none 0 0
theorem nilν_disj : ∀ i j g, i ≠ j → (nilν i).ownBlock = some g → (nilν j).ownBlock = some g → False := fun _ _ _ _ h _ => by cases h
theorem fresh_nil {D : Dom} {w w' : World} {e : TypeId} {k : IntKind} : PartRel D (renv w w' nilν) (.fresh 0 e k []) [.slice none 0 0] :=
  ⟨rfl, w', rfl, rfl, .inl ⟨rfl, rfl⟩⟩
end Go.Num
namespace Go.Num
open Go.Abs Go.Proofs Go.Shelf
variable (D : Dom)
def copyD : FnD D
  | [.one (.words .u8 l)] => some (.v (.one (.fresh 0 5 .u8 l)), [l.length ≤ 281474976710656])
  | _ => none
def copySn (l m : List Int) (k : Int) : Sn D.τ where
  slots := [(0, .v (.one (.words .u8 l))), (3, .v (.one (.own 0))), (9, .v (.one (.int .i64 false l.length))), (10, .v (.one (.int .i64 false k)))]
  boxes := [(0, .dyn 5 (.ints .u8 m))]
  nt := 22
theorem copy_round (l m : List Int) (k : Nat) : stepPs Try.prog D [] 100 (bodyOf Try.f11) 100 (copySn D l m k).st [.is true] .normal (copySn D l (m.set k (l.getD k 0)) ((k : Int) + 1)) =
    some [decide ((k : Int) < l.length) = true, 0 ≤ (k : Int), (k : Int) < l.length, 0 ≤ (k : Int), (k : Int) < m.length, k < m.length, some 1 = some 1, InI64 (k + 1), l = l, (l.length : Int) = l.length, (k : Int) + 1 = k + 1, m.set k (l.getD k 0) = m.set k (l.getD k 0)] := by kernel_rfl
theorem copy_exit (l m : List Int) (k : Nat) : stepPs Try.prog D [] 100 (bodyOf Try.f11) 100 (copySn D l m k).st [.is false] (.exit 0) (copySn D l m k) =
    some [decide ((k : Int) < l.length) = false, l = l, (l.length : Int) = l.length, (k : Int) = k, m = m] := by kernel_rfl
theorem copy_run (l m n : List Int) (b : Int) : runF Try.prog D [] 100 Try.f11 [.one (.words .u8 l)] [.loop (loopL D (copySn D l n 0) (.exit 0) (copySn D l m b))] =
    some (.v (.one (.fresh 0 5 .u8 m)), [0 ≤ (l.length : Int), (l.length : Int) ≤ l.length, (l.length : Int) ≤ 9223372036854775807, (1 : Nat) * (l.length : Int) ≤ 281474976710656, SumOK Try.prog D (bodyOf Try.f11) (loopL D (copySn D l n 0) (.exit 0) (copySn D l m b)), l = l, (l.length : Int) = l.length, (0 : Int) = 0, List.replicate l.length 0 = n]) := by kernel_rfl
def part1 (l : List Int) (k : Nat) : List Int := l.take k ++ List.replicate (l.length - k) 0
theorem part1_succ {l : List Int} {k : Nat} (h : k < l.length) : (part1 l k).set k (l.getD k 0) = part1 l (k + 1) := by
  have h1 : (l.take k).length = k := by simp; omega
  have h2 : l.length - k = (l.length - (k + 1)) + 1 := by omega
  unfold part1
  rw [h2, List.replicate_succ, List.set_append_right _ _ (by omega), h1, Nat.sub_self, List.set_cons_zero, List.take_succ_eq_append_getElem h, List.append_assoc]
  simp [List.getD_eq_getElem?_getD, List.getElem?_eq_getElem h]
theorem part1_len {l : List Int} {k : Nat} (h : k ≤ l.length) : (part1 l k).length = l.length := by
  unfold part1
  simp
  omega
theorem copy_loop {l : List Int} (h : l.length ≤ 281474976710656) : SumOK Try.prog D (bodyOf Try.f11) (loopL D (copySn D l (part1 l 0) (0 : Nat)) (.exit 0) (copySn D l (part1 l l.length) l.length)) := by
  refine sum_loop gam_nil mixed (fun k => copySn D l (part1 l k) k) l.length rfl (fun k hk => ?_) ?_
  · refine ⟨100, 100, [.is true], _, by rw [← part1_succ hk]; exact copy_round D l (part1 l k) k, ?_⟩
    have := part1_len (l := l) (k := k) (by omega)
    exact AllP.all ⟨decide_eq_true (by omega), by omega, by omega, by omega, by omega, by omega, rfl, ⟨by omega, by omega⟩, rfl, rfl, rfl, rfl⟩
  · refine ⟨100, 100, [.is false], _, copy_exit D l (part1 l l.length) l.length, ?_⟩
    exact AllP.all ⟨decide_eq_false (by omega), rfl, rfl, rfl, rfl⟩
theorem copy_ok : FnOK Try.prog D 11 (copyD D) := by
  refine fnOK_of gam_nil mixed Try.func11 (enters_of Try.func11 (by kernel_rfl) rfl) ?_
  intro xs r ps h hps
  unfold copyD at h
  split at h
  · rename_i l
    simp only [Option.some.injEq, Prod.mk.injEq] at h
    obtain ⟨rfl, rfl⟩ := h
    have hl : l.length ≤ 281474976710656 := hps _ (by simp)
    refine ⟨_, 100, _, _, _, fun w vs h => h, copy_run D l (part1 l l.length) (part1 l 0) l.length, ?_, fun E v hv => ?_⟩
    · exact AllP.all ⟨by omega, by omega, by omega, by omega, copy_loop D hl, rfl, rfl, rfl, by show List.replicate l.length 0 = part1 l 0; simp [part1]⟩
    · have e : part1 l l.length = l := by simp [part1]
      rw [e] at hv
      exact hv
  · cases h
end Go.Num
namespace Go.Num
open Go.Abs Go.Proofs Go.Shelf
variable (D : Dom)
def sameD : FnD D
  | [.one (.words .u8 l), .one (.words .u8 m)] => some (.v (.one (.bool false (decide (l = m)))), [l.length ≤ 9223372036854775807, m.length ≤ 9223372036854775807])
  | _ => none
def sameSn (l m : List Int) (k : Int) : Sn D.τ where
  slots := [(0, .v (.one (.words .u8 l))), (1, .v (.one (.words .u8 m))), (12, .v (.one (.int .i64 false l.length))), (13, .v (.one (.int .i64 false k)))]
  boxes := []
  nt := 26
def sameEnd (b : Bool) : Sn D.τ where
  slots := [(4, .v (.one (.bool true b)))]
  boxes := []
  nt := 26
theorem same_round (l m : List Int) (k : Nat) : stepPs Try.prog D [] 100 (bodyOf Try.f16) 100 (sameSn D l m k).st [.is true, .is false] .normal (sameSn D l m ((k : Int) + 1)) =
    some [decide ((k : Int) < l.length) = true, 0 ≤ (k : Int), (k : Int) < l.length, 0 ≤ (k : Int), (k : Int) < m.length, (l.getD k 0 != m.getD k 0) = false, InI64 (k + 1), l = l, m = m, (l.length : Int) = l.length, (k : Int) + 1 = k + 1] := by kernel_rfl
theorem same_differ (l m : List Int) (k : Nat) : stepPs Try.prog D [] 100 (bodyOf Try.f16) 100 (sameSn D l m k).st [.is true, .is true] .ret (sameEnd D false) =
    some [decide ((k : Int) < l.length) = true, 0 ≤ (k : Int), (k : Int) < l.length, 0 ≤ (k : Int), (k : Int) < m.length, (l.getD k 0 != m.getD k 0) = true] := by kernel_rfl
theorem same_exit (l m : List Int) (k : Nat) : stepPs Try.prog D [] 100 (bodyOf Try.f16) 100 (sameSn D l m k).st [.is false] (.exit 0) (sameSn D l m k) =
    some [decide ((k : Int) < l.length) = false, l = l, m = m, (l.length : Int) = l.length, (k : Int) = k] := by kernel_rfl
theorem same_long (l m : List Int) : runF Try.prog D [] 100 Try.f16 [.one (.words .u8 l), .one (.words .u8 m)] [.is true] = some (.v (.one (.bool true false)), [((l.length : Int) != m.length) = true]) := by kernel_rfl
theorem same_no (l m : List Int) : runF Try.prog D [] 100 Try.f16 [.one (.words .u8 l), .one (.words .u8 m)] [.is false, .loop (loopL D (sameSn D l m (0 : Nat)) .ret (sameEnd D false))] =
    some (.v (.one (.bool true false)), [((l.length : Int) != m.length) = false, SumOK Try.prog D (bodyOf Try.f16) (loopL D (sameSn D l m (0 : Nat)) .ret (sameEnd D false)), l = l, m = m, (l.length : Int) = l.length, (0 : Int) = 0]) := by kernel_rfl
theorem same_yes (l m : List Int) (k : Int) : runF Try.prog D [] 100 Try.f16 [.one (.words .u8 l), .one (.words .u8 m)] [.is false, .loop (loopL D (sameSn D l m (0 : Nat)) (.exit 0) (sameSn D l m k))] =
    some (.v (.one (.bool true true)), [((l.length : Int) != m.length) = false, SumOK Try.prog D (bodyOf Try.f16) (loopL D (sameSn D l m (0 : Nat)) (.exit 0) (sameSn D l m k)), l = l, m = m, (l.length : Int) = l.length, (0 : Int) = 0]) := by kernel_rfl
theorem first_differ : ∀ {l m : List Int}, l.length = m.length → l ≠ m → ∃ k, k < l.length ∧ l.getD k 0 ≠ m.getD k 0 ∧ ∀ j, j < k → l.getD j 0 = m.getD j 0
  | [], [], _, h => (h rfl).elim
  | a :: l, b :: m, hl, h => by
    by_cases hab : a = b
    · subst hab
      obtain ⟨k, h1, h2, h3⟩ := first_differ (l := l) (m := m) (by simpa using hl) (fun e => h (by rw [e]))
      refine ⟨k + 1, by simp; omega, by simpa using h2, fun j hj => ?_⟩
      cases j with
      | zero => rfl
      | succ j => simpa using h3 j (by omega)
    · exact ⟨0, by simp, by simpa using hab, fun j hj => by omega⟩
theorem same_ok : FnOK Try.prog D 16 (sameD D) := by
  refine fnOK_of gam_nil mixed Try.func16 (enters_of Try.func16 (by kernel_rfl) rfl) ?_
  intro xs r ps h hps
  unfold sameD at h
  split at h
  · rename_i l m
    simp only [Option.some.injEq, Prod.mk.injEq] at h
    obtain ⟨rfl, rfl⟩ := h
    have hl : l.length ≤ 9223372036854775807 := hps _ (by simp)
    have step : ∀ k, k < l.length → l.length = m.length → l.getD k 0 = m.getD k 0 → ∃ fuel nid ds ps, stepPs Try.prog D [] fuel (bodyOf Try.f16) nid (sameSn D l m k).st ds .normal (sameSn D l m ((k : Int) + 1)) = some ps ∧ AllQ ps := by
      intro k hk hlm he
      exact ⟨100, 100, _, _, same_round D l m k, AllP.all ⟨decide_eq_true (by omega), by omega, by omega, by omega, by omega, by rw [he]; simp, ⟨by omega, by omega⟩, rfl, rfl, rfl, rfl⟩⟩
    by_cases hlm : l.length = m.length
    · have hne : ((l.length : Int) != m.length) = false := by rw [hlm]; simp
      by_cases he : l = m
      · subst he
        refine ⟨_, 100, _, _, _, fun w vs h => h, same_yes D l l l.length, AllP.all ⟨hne, ?_, rfl, rfl, rfl, rfl⟩, fun E v hv => by rw [decide_eq_true rfl]; exact hv⟩
        refine sum_loop gam_nil mixed (fun k => sameSn D l l k) l.length rfl (fun k hk => step k hk rfl rfl) ?_
        exact ⟨100, 100, _, _, same_exit D l l l.length, AllP.all ⟨decide_eq_false (by omega), rfl, rfl, rfl, rfl⟩⟩
      · obtain ⟨n, hn, hd, hb⟩ := first_differ hlm he
        refine ⟨_, 100, _, _, _, fun w vs h => h, same_no D l m, AllP.all ⟨hne, ?_, rfl, rfl, rfl, rfl⟩, fun E v hv => by rw [decide_eq_false he]; exact hv⟩
        refine sum_loop gam_nil mixed (fun k => sameSn D l m k) n rfl (fun k hk => step k (by omega) hlm (hb k hk)) ?_
        exact ⟨100, 100, _, _, same_differ D l m n, AllP.all ⟨decide_eq_true (by omega), by omega, by omega, by omega, by omega, by show (l.getD n 0 != m.getD n 0) = true; exact bne_iff_ne.2 hd⟩⟩
    · refine ⟨_, 100, _, _, _, fun w vs h => h, same_long D l m, AllP.all ?_, fun E v hv => by rw [decide_eq_false (fun e => hlm (by rw [e]))]; exact hv⟩
      show ((l.length : Int) != m.length) = true
      rw [bne_iff_ne]
      omega
  · cases h
end Go.Num
namespace Go.Abs
open Go.RowKit
section
variable {P : Program} {D : Dom}
def goOn {α : Type} (next : α → Option α) : Nat → α → α
  | 0, a => a
  | g + 1, a => match next a with
    | some b => goOn next g b
    | none => a
theorem sum_whileG {α : Type} (hm : P.follows .mixedOrders = true) {c : Code} (I : α → Sn D.τ) (next : α → Option α) (inv : α → Prop) (μ : α → Nat) {e : Ex} {s : Sn D.τ} (he : Ex.same e .normal = false) (a : α) (ha : inv a)
    (hs : ∀ x y, inv x → next x = some y → inv y ∧ μ y < μ x ∧ ∃ Γ fuel nid ds ps, GamOK P D Γ ∧ stepPs P D Γ fuel c nid (I x).st ds .normal (I y) = some ps ∧ AllQ ps)
    (hx : ∀ z, inv z → next z = none → z = goOn next (μ a) a → ∃ Γ fuel nid ds ps, GamOK P D Γ ∧ stepPs P D Γ fuel c nid (I z).st ds e s = some ps ∧ AllQ ps) : SumOK P D c (loopL D (I a) e s) := by
  intro S e' S' ps hL hps M w0 l w Q hR hQ
  unfold loopL at hL
  split at hL
  · rename_i qs hq
    simp only [Option.some.injEq, Prod.mk.injEq] at hL
    obtain ⟨rfl, rfl, rfl⟩ := hL
    have hR0 := fitSt_sound hq hps hR
    refine loop_sinks (J := fun g l w => ∃ x, inv x ∧ μ x ≤ g ∧ goOn next g x = goOn next (μ a) a ∧ R D M w0 (I x).st l w) (g := μ a) ⟨a, ha, Nat.le_refl _, rfl, hR0⟩ ?_
    rintro g l w ⟨x, hi, hg, hr, hRx⟩
    cases hn : next x with
    | none =>
      have hz : x = goOn next (μ a) a := by
        rw [← hr]
        cases g with
        | zero => rfl
        | succ g => unfold goOn; rw [hn]
      obtain ⟨Γ, fuel, nid, ds, ps, hΓ, h1, h2⟩ := hx x hi hn hz
      refine stepPs_sound hΓ hm h1 h2 hRx (fun a' w' hR' => ?_)
      have := hQ a' w' hR'
      cases e
      · cases he
      · exact this
      · exact this
    | some y =>
      obtain ⟨hy, hl, Γ, fuel, nid, ds, ps, hΓ, h1, h2⟩ := hs x y hi hn
      refine stepPs_sound hΓ hm h1 h2 hRx (fun a' w' hR' => ?_)
      obtain ⟨g, rfl⟩ : ∃ k, g = k + 1 := ⟨g - 1, by omega⟩
      refine ⟨g, Nat.lt_succ_self _, y, hy, by omega, ?_, hR'⟩
      rw [← hr]
      show _ = goOn next (g + 1) x
      unfold goOn
      rw [hn]
      cases g <;> rfl
  · cases hL
end
end Go.Abs
namespace Go.Num
open Go.Abs Go.Proofs Go.Shelf
def fileOb (l : List Int) (s : Int) : Ob := .node [.w l, .i s] []
def obD : Ob → List Int
  | .node r _ => recW r 0
def obS : Ob → Int
  | .node r _ => recI r 1
def filesF : FamD Empty where
  row := false
  kt := 9
  vt := 68
  ksh := [.str]
  kagg := false
  vagg := true
  n := 1
  root := fun ob => [.own 0, .int .i64 false (obS ob)]
  boxes := fun ob => [.dyn 5 (.ints .u8 (obD ob))]
  impl := fun
    | [.own b, .int .i64 _ s] => .box b fun
      | .dyn _ (.ints .u8 l) => .ret (fileOb l s, [b])
      | _ => .fail
    | _ => .fail
def DF : Dom where
  τ := Empty
  size := fun t => t.elim
  rel := fun t => t.elim
  eqv := fun t => t.elim
  eqs := fun t => t.elim
  len := fun t => t.elim
  one := fun t => t.elim
  fam := fun k => bif Nat.beq k 0 then some filesF else none
  famOf := fun t => bif Nat.beq t 64 then some 0 else none
end Go.Num
namespace Go.Num
open Go.Abs Go.Proofs Go.Shelf
def rtSn (s : ByteArray) (k : Int) : Sn DF.τ where
  slots := [(0, .v (.one (.str s))), (14, .v (.one (.int .i64 false s.size))), (15, .v (.one (.int .i64 false k)))]
  boxes := []
  nt := 41
def rtEnd : Sn DF.τ where
  slots := [(2, .v (.one (.bool true false)))]
  boxes := []
  nt := 41
def rrSn (s : ByteArray) (k : Int) : Sn DF.τ where
  slots := [(0, .v (.one (.str s))), (3, .v (.one (.int .i64 false k)))]
  boxes := []
  nt := 42
def rrEnd : Sn DF.τ where
  slots := [(2, .v (.one (.bool true false)))]
  boxes := []
  nt := 42
theorem rt_okA (s : ByteArray) (k k' : Int)
 (h1 : ((decide (k < (((ByteArray.size s) : Nat) : Int))) = true))
 (h2 : ((0 : Int) ≤ k))
 (h3 : (k < (((ByteArray.size s) : Nat) : Int)))
 (h4 : ((decide ((((UInt8.toNat (List.getD ((s).1).1 (Int.toNat k) (0 : UInt8))) : Nat) : Int) ≥ (97 : Int))) = true))
 (h5 : ((decide ((((UInt8.toNat (List.getD ((s).1).1 (Int.toNat k) (0 : UInt8))) : Nat) : Int) ≤ (122 : Int))) = true))
 (h6 : (InI64 (k + (1 : Int))))
 (h7 : ((k + (1 : Int)) = k')) :
 ∃ ps, stepPs Try.prog DF [] 100 (bodyN Try.f36 0) 100 (rtSn s k).st [.is true, .is true, .is true] .normal (rtSn s k') = some ps ∧ AllQ ps := ⟨_, by kernel_rfl, qc h1 (qc h2 (qc h3 (qc h4 (qc h5 (qc h6 (qc (Eq.refl s) (qc (Eq.refl ((((ByteArray.size s) : Nat) : Int))) (qc h7 (qn)))))))))⟩
theorem rt_okB (s : ByteArray) (k k' : Int)
 (h1 : ((decide (k < (((ByteArray.size s) : Nat) : Int))) = true))
 (h2 : ((0 : Int) ≤ k))
 (h3 : (k < (((ByteArray.size s) : Nat) : Int)))
 (h4 : ((decide ((((UInt8.toNat (List.getD ((s).1).1 (Int.toNat k) (0 : UInt8))) : Nat) : Int) ≥ (97 : Int))) = false))
 (h5 : ((decide ((((UInt8.toNat (List.getD ((s).1).1 (Int.toNat k) (0 : UInt8))) : Nat) : Int) ≥ (48 : Int))) = true))
 (h6 : ((decide ((((UInt8.toNat (List.getD ((s).1).1 (Int.toNat k) (0 : UInt8))) : Nat) : Int) ≤ (57 : Int))) = true))
 (h7 : (InI64 (k + (1 : Int))))
 (h8 : ((k + (1 : Int)) = k')) :
 ∃ ps, stepPs Try.prog DF [] 100 (bodyN Try.f36 0) 100 (rtSn s k).st [.is true, .is false, .is true, .is true] .normal (rtSn s k') = some ps ∧ AllQ ps := ⟨_, by kernel_rfl, qc h1 (qc h2 (qc h3 (qc h4 (qc h5 (qc h6 (qc h7 (qc (Eq.refl s) (qc (Eq.refl ((((ByteArray.size s) : Nat) : Int))) (qc h8 (qn))))))))))⟩
theorem rt_okC (s : ByteArray) (k k' : Int)
 (h1 : ((decide (k < (((ByteArray.size s) : Nat) : Int))) = true))
 (h2 : ((0 : Int) ≤ k))
 (h3 : (k < (((ByteArray.size s) : Nat) : Int)))
 (h4 : ((decide ((((UInt8.toNat (List.getD ((s).1).1 (Int.toNat k) (0 : UInt8))) : Nat) : Int) ≥ (97 : Int))) = false))
 (h5 : ((decide ((((UInt8.toNat (List.getD ((s).1).1 (Int.toNat k) (0 : UInt8))) : Nat) : Int) ≥ (48 : Int))) = false))
 (h6 : (((((UInt8.toNat (List.getD ((s).1).1 (Int.toNat k) (0 : UInt8))) : Nat) : Int) == (45 : Int)) = true))
 (h7 : (InI64 (k + (1 : Int))))
 (h8 : ((k + (1 : Int)) = k')) :
 ∃ ps, stepPs Try.prog DF [] 100 (bodyN Try.f36 0) 100 (rtSn s k).st [.is true, .is false, .is false, .is true] .normal (rtSn s k') = some ps ∧ AllQ ps := ⟨_, by kernel_rfl, qc h1 (qc h2 (qc h3 (qc h4 (qc h5 (qc h6 (qc h7 (qc (Eq.refl s) (qc (Eq.refl ((((ByteArray.size s) : Nat) : Int))) (qc h8 (qn))))))))))⟩
theorem rt_noA (s : ByteArray) (k : Int)
 (h1 : ((decide (k < (((ByteArray.size s) : Nat) : Int))) = true))
 (h2 : ((0 : Int) ≤ k))
 (h3 : (k < (((ByteArray.size s) : Nat) : Int)))
 (h4 : ((decide ((((UInt8.toNat (List.getD ((s).1).1 (Int.toNat k) (0 : UInt8))) : Nat) : Int) ≥ (97 : Int))) = true))
 (h5 : ((decide ((((UInt8.toNat (List.getD ((s).1).1 (Int.toNat k) (0 : UInt8))) : Nat) : Int) ≤ (122 : Int))) = false))
 (h6 : ((decide ((((UInt8.toNat (List.getD ((s).1).1 (Int.toNat k) (0 : UInt8))) : Nat) : Int) ≥ (48 : Int))) = true))
 (h7 : ((decide ((((UInt8.toNat (List.getD ((s).1).1 (Int.toNat k) (0 : UInt8))) : Nat) : Int) ≤ (57 : Int))) = false))
 (h8 : (((((UInt8.toNat (List.getD ((s).1).1 (Int.toNat k) (0 : UInt8))) : Nat) : Int) == (45 : Int)) = false)) :
 ∃ ps, stepPs Try.prog DF [] 100 (bodyN Try.f36 0) 100 (rtSn s k).st [.is true, .is true, .is false, .is true, .is false, .is false] .ret rtEnd = some ps ∧ AllQ ps := ⟨_, by kernel_rfl, qc h1 (qc h2 (qc h3 (qc h4 (qc h5 (qc h6 (qc h7 (qc h8 (qn))))))))⟩
theorem rt_noB (s : ByteArray) (k : Int)
 (h1 : ((decide (k < (((ByteArray.size s) : Nat) : Int))) = true))
 (h2 : ((0 : Int) ≤ k))
 (h3 : (k < (((ByteArray.size s) : Nat) : Int)))
 (h4 : ((decide ((((UInt8.toNat (List.getD ((s).1).1 (Int.toNat k) (0 : UInt8))) : Nat) : Int) ≥ (97 : Int))) = false))
 (h5 : ((decide ((((UInt8.toNat (List.getD ((s).1).1 (Int.toNat k) (0 : UInt8))) : Nat) : Int) ≥ (48 : Int))) = true))
 (h6 : ((decide ((((UInt8.toNat (List.getD ((s).1).1 (Int.toNat k) (0 : UInt8))) : Nat) : Int) ≤ (57 : Int))) = false))
 (h7 : (((((UInt8.toNat (List.getD ((s).1).1 (Int.toNat k) (0 : UInt8))) : Nat) : Int) == (45 : Int)) = false)) :
 ∃ ps, stepPs Try.prog DF [] 100 (bodyN Try.f36 0) 100 (rtSn s k).st [.is true, .is false, .is true, .is false, .is false] .ret rtEnd = some ps ∧ AllQ ps := ⟨_, by kernel_rfl, qc h1 (qc h2 (qc h3 (qc h4 (qc h5 (qc h6 (qc h7 (qn)))))))⟩
theorem rt_noC (s : ByteArray) (k : Int)
 (h1 : ((decide (k < (((ByteArray.size s) : Nat) : Int))) = true))
 (h2 : ((0 : Int) ≤ k))
 (h3 : (k < (((ByteArray.size s) : Nat) : Int)))
 (h4 : ((decide ((((UInt8.toNat (List.getD ((s).1).1 (Int.toNat k) (0 : UInt8))) : Nat) : Int) ≥ (97 : Int))) = false))
 (h5 : ((decide ((((UInt8.toNat (List.getD ((s).1).1 (Int.toNat k) (0 : UInt8))) : Nat) : Int) ≥ (48 : Int))) = false))
 (h6 : (((((UInt8.toNat (List.getD ((s).1).1 (Int.toNat k) (0 : UInt8))) : Nat) : Int) == (45 : Int)) = false)) :
 ∃ ps, stepPs Try.prog DF [] 100 (bodyN Try.f36 0) 100 (rtSn s k).st [.is true, .is false, .is false, .is false] .ret rtEnd = some ps ∧ AllQ ps := ⟨_, by kernel_rfl, qc h1 (qc h2 (qc h3 (qc h4 (qc h5 (qc h6 (qn))))))⟩
theorem rt_exit (s : ByteArray) (k : Int)
 (h1 : ((decide (k < (((ByteArray.size s) : Nat) : Int))) = false)) :
 ∃ ps, stepPs Try.prog DF [] 100 (bodyN Try.f36 0) 100 (rtSn s k).st [.is false] (.exit 0) ⟨[], [], 41, 0⟩ = some ps ∧ AllQ ps := ⟨_, by kernel_rfl, qc h1 (qn)⟩
theorem rr_okC (s : ByteArray) (k k' : Int)
 (h1 : ((decide (k < (((ByteArray.size s) : Nat) : Int))) = true))
 (h2 : ((0 : Int) ≤ k))
 (h3 : (k < (((ByteArray.size s) : Nat) : Int)))
 (h4 : (((((UInt8.toNat (List.getD ((s).1).1 (Int.toNat k) (0 : UInt8))) : Nat) : Int) != (45 : Int)) = false))
 (h5 : (InI64 (k + (1 : Int))))
 (h6 : ((k + (1 : Int)) = k')) :
 ∃ ps, stepPs Try.prog DF [] 100 (bodyN Try.f39 0) 100 (rrSn s k).st [.is true, .is false] .normal (rrSn s k') = some ps ∧ AllQ ps := ⟨_, by kernel_rfl, qc h1 (qc h2 (qc h3 (qc h4 (qc h5 (qc (Eq.refl s) (qc h6 (qn)))))))⟩
theorem rr_okA (s : ByteArray) (k k' : Int)
 (h1 : ((decide (k < (((ByteArray.size s) : Nat) : Int))) = true))
 (h2 : ((0 : Int) ≤ k))
 (h3 : (k < (((ByteArray.size s) : Nat) : Int)))
 (h4 : (((((UInt8.toNat (List.getD ((s).1).1 (Int.toNat k) (0 : UInt8))) : Nat) : Int) != (45 : Int)) = true))
 (h5 : ((decide ((((UInt8.toNat (List.getD ((s).1).1 (Int.toNat k) (0 : UInt8))) : Nat) : Int) ≥ (97 : Int))) = true))
 (h6 : ((decide ((((UInt8.toNat (List.getD ((s).1).1 (Int.toNat k) (0 : UInt8))) : Nat) : Int) ≤ (122 : Int))) = true))
 (h7 : (InI64 (k + (1 : Int))))
 (h8 : ((k + (1 : Int)) = k')) :
 ∃ ps, stepPs Try.prog DF [] 100 (bodyN Try.f39 0) 100 (rrSn s k).st [.is true, .is true, .is true, .is true] .normal (rrSn s k') = some ps ∧ AllQ ps := ⟨_, by kernel_rfl, qc h1 (qc h2 (qc h3 (qc h4 (qc h5 (qc h6 (qc h7 (qc (Eq.refl s) (qc h8 (qn)))))))))⟩
theorem rr_okB (s : ByteArray) (k k' : Int)
 (h1 : ((decide (k < (((ByteArray.size s) : Nat) : Int))) = true))
 (h2 : ((0 : Int) ≤ k))
 (h3 : (k < (((ByteArray.size s) : Nat) : Int)))
 (h4 : (((((UInt8.toNat (List.getD ((s).1).1 (Int.toNat k) (0 : UInt8))) : Nat) : Int) != (45 : Int)) = true))
 (h5 : ((decide ((((UInt8.toNat (List.getD ((s).1).1 (Int.toNat k) (0 : UInt8))) : Nat) : Int) ≥ (97 : Int))) = false))
 (h6 : ((decide ((((UInt8.toNat (List.getD ((s).1).1 (Int.toNat k) (0 : UInt8))) : Nat) : Int) ≥ (48 : Int))) = true))
 (h7 : ((decide ((((UInt8.toNat (List.getD ((s).1).1 (Int.toNat k) (0 : UInt8))) : Nat) : Int) ≤ (57 : Int))) = true))
 (h8 : (InI64 (k + (1 : Int))))
 (h9 : ((k + (1 : Int)) = k')) :
 ∃ ps, stepPs Try.prog DF [] 100 (bodyN Try.f39 0) 100 (rrSn s k).st [.is true, .is true, .is false, .is true, .is true] .normal (rrSn s k') = some ps ∧ AllQ ps := ⟨_, by kernel_rfl, qc h1 (qc h2 (qc h3 (qc h4 (qc h5 (qc h6 (qc h7 (qc h8 (qc (Eq.refl s) (qc h9 (qn))))))))))⟩
theorem rr_noA (s : ByteArray) (k : Int)
 (h1 : ((decide (k < (((ByteArray.size s) : Nat) : Int))) = true))
 (h2 : ((0 : Int) ≤ k))
 (h3 : (k < (((ByteArray.size s) : Nat) : Int)))
 (h4 : (((((UInt8.toNat (List.getD ((s).1).1 (Int.toNat k) (0 : UInt8))) : Nat) : Int) != (45 : Int)) = true))
 (h5 : ((decide ((((UInt8.toNat (List.getD ((s).1).1 (Int.toNat k) (0 : UInt8))) : Nat) : Int) ≥ (97 : Int))) = true))
 (h6 : ((decide ((((UInt8.toNat (List.getD ((s).1).1 (Int.toNat k) (0 : UInt8))) : Nat) : Int) ≤ (122 : Int))) = false))
 (h7 : ((decide ((((UInt8.toNat (List.getD ((s).1).1 (Int.toNat k) (0 : UInt8))) : Nat) : Int) ≥ (48 : Int))) = true))
 (h8 : ((decide ((((UInt8.toNat (List.getD ((s).1).1 (Int.toNat k) (0 : UInt8))) : Nat) : Int) ≤ (57 : Int))) = false)) :
 ∃ ps, stepPs Try.prog DF [] 100 (bodyN Try.f39 0) 100 (rrSn s k).st [.is true, .is true, .is true, .is false, .is true, .is false] .ret rrEnd = some ps ∧ AllQ ps := ⟨_, by kernel_rfl, qc h1 (qc h2 (qc h3 (qc h4 (qc h5 (qc h6 (qc h7 (qc h8 (qn))))))))⟩
theorem rr_noB (s : ByteArray) (k : Int)
 (h1 : ((decide (k < (((ByteArray.size s) : Nat) : Int))) = true))
 (h2 : ((0 : Int) ≤ k))
 (h3 : (k < (((ByteArray.size s) : Nat) : Int)))
 (h4 : (((((UInt8.toNat (List.getD ((s).1).1 (Int.toNat k) (0 : UInt8))) : Nat) : Int) != (45 : Int)) = true))
 (h5 : ((decide ((((UInt8.toNat (List.getD ((s).1).1 (Int.toNat k) (0 : UInt8))) : Nat) : Int) ≥ (97 : Int))) = false))
 (h6 : ((decide ((((UInt8.toNat (List.getD ((s).1).1 (Int.toNat k) (0 : UInt8))) : Nat) : Int) ≥ (48 : Int))) = true))
 (h7 : ((decide ((((UInt8.toNat (List.getD ((s).1).1 (Int.toNat k) (0 : UInt8))) : Nat) : Int) ≤ (57 : Int))) = false)) :
 ∃ ps, stepPs Try.prog DF [] 100 (bodyN Try.f39 0) 100 (rrSn s k).st [.is true, .is true, .is false, .is true, .is false] .ret rrEnd = some ps ∧ AllQ ps := ⟨_, by kernel_rfl, qc h1 (qc h2 (qc h3 (qc h4 (qc h5 (qc h6 (qc h7 (qn)))))))⟩
theorem rr_noC (s : ByteArray) (k : Int)
 (h1 : ((decide (k < (((ByteArray.size s) : Nat) : Int))) = true))
 (h2 : ((0 : Int) ≤ k))
 (h3 : (k < (((ByteArray.size s) : Nat) : Int)))
 (h4 : (((((UInt8.toNat (List.getD ((s).1).1 (Int.toNat k) (0 : UInt8))) : Nat) : Int) != (45 : Int)) = true))
 (h5 : ((decide ((((UInt8.toNat (List.getD ((s).1).1 (Int.toNat k) (0 : UInt8))) : Nat) : Int) ≥ (97 : Int))) = false))
 (h6 : ((decide ((((UInt8.toNat (List.getD ((s).1).1 (Int.toNat k) (0 : UInt8))) : Nat) : Int) ≥ (48 : Int))) = false)) :
 ∃ ps, stepPs Try.prog DF [] 100 (bodyN Try.f39 0) 100 (rrSn s k).st [.is true, .is true, .is false, .is false] .ret rrEnd = some ps ∧ AllQ ps := ⟨_, by kernel_rfl, qc h1 (qc h2 (qc h3 (qc h4 (qc h5 (qc h6 (qn))))))⟩
theorem rr_exit (s : ByteArray) (k : Int)
 (h1 : ((decide (k < (((ByteArray.size s) : Nat) : Int))) = false)) :
 ∃ ps, stepPs Try.prog DF [] 100 (bodyN Try.f39 0) 100 (rrSn s k).st [.is false] (.exit 0) ⟨[(0, .v (.one (.str s)))], [], 42, 0⟩ = some ps ∧ AllQ ps := ⟨_, by kernel_rfl, qc h1 (qc (Eq.refl s) (qn))⟩
theorem rt_short (s : ByteArray)
 (h1 : ((decide ((((ByteArray.size s) : Nat) : Int) < (1 : Int))) = true)) :
 ∃ ps, runF Try.prog DF [] 100 Try.f36 [.one (.str s)] [.is true] = some ((AV.v (A0.one (Part.bool true false))), ps) ∧ AllQ ps := ⟨_, by kernel_rfl, qc h1 (qn)⟩
theorem rt_long (s : ByteArray)
 (h1 : ((decide ((((ByteArray.size s) : Nat) : Int) < (1 : Int))) = false))
 (h2 : ((decide ((((ByteArray.size s) : Nat) : Int) > (24 : Int))) = true)) :
 ∃ ps, runF Try.prog DF [] 100 Try.f36 [.one (.str s)] [.is false, .is true] = some ((AV.v (A0.one (Part.bool true false))), ps) ∧ AllQ ps := ⟨_, by kernel_rfl, qc h1 (qc h2 (qn))⟩
theorem rt_yes (s : ByteArray)
 (h1 : ((decide ((((ByteArray.size s) : Nat) : Int) < (1 : Int))) = false))
 (h2 : ((decide ((((ByteArray.size s) : Nat) : Int) > (24 : Int))) = false))
 (h3 : SumOK Try.prog DF (bodyN Try.f36 0) (loopL DF (rtSn s (0 : Nat)) (.exit 0) ⟨[], [], 41, 0⟩)) :
 ∃ ps, runF Try.prog DF [] 100 Try.f36 [.one (.str s)] [.is false, .is false, .loop (loopL DF (rtSn s (0 : Nat)) (.exit 0) ⟨[], [], 41, 0⟩)] = some ((AV.v (A0.one (Part.bool true true))), ps) ∧ AllQ ps := ⟨_, by kernel_rfl, qc h1 (qc h2 (qc h3 (qc (Eq.refl s) (qc (Eq.refl ((((ByteArray.size s) : Nat) : Int))) (qc (show ((0 : Int) = (((0 : Nat) : Nat) : Int)) from by decide) (qn))))))⟩
theorem rt_no (s : ByteArray)
 (h1 : ((decide ((((ByteArray.size s) : Nat) : Int) < (1 : Int))) = false))
 (h2 : ((decide ((((ByteArray.size s) : Nat) : Int) > (24 : Int))) = false))
 (h3 : SumOK Try.prog DF (bodyN Try.f36 0) (loopL DF (rtSn s (0 : Nat)) .ret rtEnd)) :
 ∃ ps, runF Try.prog DF [] 100 Try.f36 [.one (.str s)] [.is false, .is false, .loop (loopL DF (rtSn s (0 : Nat)) .ret rtEnd)] = some ((AV.v (A0.one (Part.bool true false))), ps) ∧ AllQ ps := ⟨_, by kernel_rfl, qc h1 (qc h2 (qc h3 (qc (Eq.refl s) (qc (Eq.refl ((((ByteArray.size s) : Nat) : Int))) (qc (show ((0 : Int) = (((0 : Nat) : Nat) : Int)) from by decide) (qn))))))⟩
theorem rr_yes (s : ByteArray)
 (h1 : SumOK Try.prog DF (bodyN Try.f39 0) (loopL DF (rrSn s (0 : Nat)) (.exit 0) ⟨[(0, .v (.one (.str s)))], [], 42, 0⟩))
 (h2 : ((decide ((((ByteArray.size s) : Nat) : Int) > (0 : Int))) = true))
 (h3 : ((decide ((((ByteArray.size s) : Nat) : Int) < (25 : Int))) = true)) :
 ∃ ps, runF Try.prog DF [] 100 Try.f39 [.one (.str s)] [.loop (loopL DF (rrSn s (0 : Nat)) (.exit 0) ⟨[(0, .v (.one (.str s)))], [], 42, 0⟩), .is true, .is true] = some ((AV.v (A0.one (Part.bool true true))), ps) ∧ AllQ ps := ⟨_, by kernel_rfl, qc h1 (qc (Eq.refl s) (qc (show ((0 : Int) = (((0 : Nat) : Nat) : Int)) from by decide) (qc h2 (qc h3 (qn)))))⟩
theorem rr_short (s : ByteArray)
 (h1 : SumOK Try.prog DF (bodyN Try.f39 0) (loopL DF (rrSn s (0 : Nat)) (.exit 0) ⟨[(0, .v (.one (.str s)))], [], 42, 0⟩))
 (h2 : ((decide ((((ByteArray.size s) : Nat) : Int) > (0 : Int))) = false)) :
 ∃ ps, runF Try.prog DF [] 100 Try.f39 [.one (.str s)] [.loop (loopL DF (rrSn s (0 : Nat)) (.exit 0) ⟨[(0, .v (.one (.str s)))], [], 42, 0⟩), .is false] = some ((AV.v (A0.one (Part.bool true false))), ps) ∧ AllQ ps := ⟨_, by kernel_rfl, qc h1 (qc (Eq.refl s) (qc (show ((0 : Int) = (((0 : Nat) : Nat) : Int)) from by decide) (qc h2 (qn))))⟩
theorem rr_long (s : ByteArray)
 (h1 : SumOK Try.prog DF (bodyN Try.f39 0) (loopL DF (rrSn s (0 : Nat)) (.exit 0) ⟨[(0, .v (.one (.str s)))], [], 42, 0⟩))
 (h2 : ((decide ((((ByteArray.size s) : Nat) : Int) > (0 : Int))) = true))
 (h3 : ((decide ((((ByteArray.size s) : Nat) : Int) < (25 : Int))) = false)) :
 ∃ ps, runF Try.prog DF [] 100 Try.f39 [.one (.str s)] [.loop (loopL DF (rrSn s (0 : Nat)) (.exit 0) ⟨[(0, .v (.one (.str s)))], [], 42, 0⟩), .is true, .is false] = some ((AV.v (A0.one (Part.bool true false))), ps) ∧ AllQ ps := ⟨_, by kernel_rfl, qc h1 (qc (Eq.refl s) (qc (show ((0 : Int) = (((0 : Nat) : Nat) : Int)) from by decide) (qc h2 (qc h3 (qn)))))⟩
theorem rr_no (s : ByteArray)
 (h1 : SumOK Try.prog DF (bodyN Try.f39 0) (loopL DF (rrSn s (0 : Nat)) .ret rrEnd)) :
 ∃ ps, runF Try.prog DF [] 100 Try.f39 [.one (.str s)] [.loop (loopL DF (rrSn s (0 : Nat)) .ret rrEnd)] = some ((AV.v (A0.one (Part.bool true false))), ps) ∧ AllQ ps := ⟨_, by kernel_rfl, qc h1 (qc (Eq.refl s) (qc (show ((0 : Int) = (((0 : Nat) : Nat) : Int)) from by decide) (qn)))⟩
def okc (c : UInt8) : Bool := decide (97 ≤ c.toNat ∧ c.toNat ≤ 122) || (decide (48 ≤ c.toNat ∧ c.toNat ≤ 57) || decide (c.toNat = 45))
def rightB (s : ByteArray) : Bool := decide (1 ≤ s.size ∧ s.size ≤ 24) && s.data.toList.all okc
theorem ba_len (s : ByteArray) : s.data.toList.length = s.size := by
  show s.data.toList.length = s.data.size
  exact Array.length_toList
theorem all_or (l : List UInt8) : l.all okc = true ∨ ∃ k, k < l.length ∧ okc (l.getD k 0) = false ∧ ∀ j, j < k → okc (l.getD j 0) = true := by
  induction l with
  | nil => exact Or.inl rfl
  | cons a l ih =>
    cases ha : okc a
    · exact Or.inr ⟨0, by simp, ha, fun j hj => by omega⟩
    · rcases ih with h | ⟨k, h1, h2, h3⟩
      · left
        simp [ha, h]
      · right
        refine ⟨k + 1, by simp; omega, by simpa using h2, fun j hj => ?_⟩
        cases j with
        | zero => exact ha
        | succ j => simpa using h3 j (by omega)
theorem all_at {l : List UInt8} (h : l.all okc = true) {k : Nat} (hk : k < l.length) : okc (l.getD k 0) = true := by
  rw [List.getD_eq_getElem?_getD, List.getElem?_eq_getElem hk]
  exact List.all_eq_true.1 h _ (List.getElem_mem hk)
theorem rt_step (s : ByteArray) (hs : s.size ≤ 1000000000) {k : Nat} (hk : k < s.size) (h : okc (s.data.toList.getD k 0) = true) : ∃ fuel nid ds ps, stepPs Try.prog DF [] fuel (bodyN Try.f36 0) nid (rtSn s k).st ds .normal (rtSn s ((k + 1 : Nat) : Int)) = some ps ∧ AllQ ps := by
  have d1 : decide ((k : Int) < (s.size : Int)) = true := decide_eq_true (by omega)
  have i1 : InI64 ((k : Int) + 1) := ⟨by omega, by omega⟩
  unfold okc at h
  simp only [Bool.or_eq_true, decide_eq_true_eq] at h
  by_cases c1 : 97 ≤ (s.data.toList.getD k 0).toNat
  · exact ⟨_, _, _, rt_okA s k _ d1 (by omega) (by omega) (decide_eq_true (by rw [Int.toNat_natCast]; omega)) (decide_eq_true (by rw [Int.toNat_natCast]; omega)) i1 rfl⟩
  · by_cases c2 : 48 ≤ (s.data.toList.getD k 0).toNat
    · exact ⟨_, _, _, rt_okB s k _ d1 (by omega) (by omega) (decide_eq_false (by rw [Int.toNat_natCast]; omega)) (decide_eq_true (by rw [Int.toNat_natCast]; omega)) (decide_eq_true (by rw [Int.toNat_natCast]; omega)) i1 rfl⟩
    · exact ⟨_, _, _, rt_okC s k _ d1 (by omega) (by omega) (decide_eq_false (by rw [Int.toNat_natCast]; omega)) (decide_eq_false (by rw [Int.toNat_natCast]; omega)) (beq_iff_eq.2 (by rw [Int.toNat_natCast]; omega)) i1 rfl⟩
theorem rt_bad (s : ByteArray) {k : Nat} (hk : k < s.size) (h : okc (s.data.toList.getD k 0) = false) : ∃ fuel nid ds ps, stepPs Try.prog DF [] fuel (bodyN Try.f36 0) nid (rtSn s k).st ds .ret rtEnd = some ps ∧ AllQ ps := by
  have d1 : decide ((k : Int) < (s.size : Int)) = true := decide_eq_true (by omega)
  unfold okc at h
  simp only [Bool.or_eq_false_iff, decide_eq_false_iff_not] at h
  by_cases c1 : 97 ≤ (s.data.toList.getD k 0).toNat
  · exact ⟨_, _, _, rt_noA s k d1 (by omega) (by omega) (decide_eq_true (by rw [Int.toNat_natCast]; omega)) (decide_eq_false (by rw [Int.toNat_natCast]; omega)) (decide_eq_true (by rw [Int.toNat_natCast]; omega)) (decide_eq_false (by rw [Int.toNat_natCast]; omega)) (beq_eq_false_iff_ne.2 (by rw [Int.toNat_natCast]; omega))⟩
  · by_cases c2 : 48 ≤ (s.data.toList.getD k 0).toNat
    · exact ⟨_, _, _, rt_noB s k d1 (by omega) (by omega) (decide_eq_false (by rw [Int.toNat_natCast]; omega)) (decide_eq_true (by rw [Int.toNat_natCast]; omega)) (decide_eq_false (by rw [Int.toNat_natCast]; omega)) (beq_eq_false_iff_ne.2 (by rw [Int.toNat_natCast]; omega))⟩
    · exact ⟨_, _, _, rt_noC s k d1 (by omega) (by omega) (decide_eq_false (by rw [Int.toNat_natCast]; omega)) (decide_eq_false (by rw [Int.toNat_natCast]; omega)) (beq_eq_false_iff_ne.2 (by rw [Int.toNat_natCast]; omega))⟩
theorem rr_step (s : ByteArray) (hs : s.size ≤ 9223372036854775807) {k : Nat} (hk : k < s.size) (h : okc (s.data.toList.getD k 0) = true) : ∃ fuel nid ds ps, stepPs Try.prog DF [] fuel (bodyN Try.f39 0) nid (rrSn s k).st ds .normal (rrSn s ((k + 1 : Nat) : Int)) = some ps ∧ AllQ ps := by
  have d1 : decide ((k : Int) < (s.size : Int)) = true := decide_eq_true (by omega)
  have i1 : InI64 ((k : Int) + 1) := ⟨by omega, by omega⟩
  unfold okc at h
  simp only [Bool.or_eq_true, decide_eq_true_eq] at h
  by_cases c0 : (s.data.toList.getD k 0).toNat = 45
  · exact ⟨_, _, _, rr_okC s k _ d1 (by omega) (by omega) (by rw [Int.toNat_natCast, c0]; rfl) i1 rfl⟩
  have d0 : ((((s.data.toList.getD (Int.toNat (k : Int)) 0).toNat : Nat) : Int) != 45) = true := bne_iff_ne.2 (by rw [Int.toNat_natCast]; omega)
  by_cases c1 : 97 ≤ (s.data.toList.getD k 0).toNat
  · exact ⟨_, _, _, rr_okA s k _ d1 (by omega) (by omega) d0 (decide_eq_true (by rw [Int.toNat_natCast]; omega)) (decide_eq_true (by rw [Int.toNat_natCast]; omega)) i1 rfl⟩
  · exact ⟨_, _, _, rr_okB s k _ d1 (by omega) (by omega) d0 (decide_eq_false (by rw [Int.toNat_natCast]; omega)) (decide_eq_true (by rw [Int.toNat_natCast]; omega)) (decide_eq_true (by rw [Int.toNat_natCast]; omega)) i1 rfl⟩
theorem rr_bad (s : ByteArray) {k : Nat} (hk : k < s.size) (h : okc (s.data.toList.getD k 0) = false) : ∃ fuel nid ds ps, stepPs Try.prog DF [] fuel (bodyN Try.f39 0) nid (rrSn s k).st ds .ret rrEnd = some ps ∧ AllQ ps := by
  have d1 : decide ((k : Int) < (s.size : Int)) = true := decide_eq_true (by omega)
  unfold okc at h
  simp only [Bool.or_eq_false_iff, decide_eq_false_iff_not] at h
  have d0 : ((((s.data.toList.getD (Int.toNat (k : Int)) 0).toNat : Nat) : Int) != 45) = true := bne_iff_ne.2 (by rw [Int.toNat_natCast]; omega)
  by_cases c1 : 97 ≤ (s.data.toList.getD k 0).toNat
  · exact ⟨_, _, _, rr_noA s k d1 (by omega) (by omega) d0 (decide_eq_true (by rw [Int.toNat_natCast]; omega)) (decide_eq_false (by rw [Int.toNat_natCast]; omega)) (decide_eq_true (by rw [Int.toNat_natCast]; omega)) (decide_eq_false (by rw [Int.toNat_natCast]; omega))⟩
  · by_cases c2 : 48 ≤ (s.data.toList.getD k 0).toNat
    · exact ⟨_, _, _, rr_noB s k d1 (by omega) (by omega) d0 (decide_eq_false (by rw [Int.toNat_natCast]; omega)) (decide_eq_true (by rw [Int.toNat_natCast]; omega)) (decide_eq_false (by rw [Int.toNat_natCast]; omega))⟩
    · exact ⟨_, _, _, rr_noC s k d1 (by omega) (by omega) d0 (decide_eq_false (by rw [Int.toNat_natCast]; omega)) (decide_eq_false (by rw [Int.toNat_natCast]; omega))⟩
def rightF : FnD DF
  | [.one (.str s)] => some (.v (.one (.bool false (rightB s))), [s.size ≤ 9223372036854775807])
  | _ => none
theorem right_ok : FnOK Try.prog DF 36 rightF := by
  refine fnOK_of gam_nil mixed Try.func36 (enters_of Try.func36 (by kernel_rfl) rfl) ?_
  intro xs r ps h hps
  unfold rightF at h
  split at h
  · rename_i s
    simp only [Option.some.injEq, Prod.mk.injEq] at h
    obtain ⟨rfl, rfl⟩ := h
    by_cases h1 : s.size < 1
    · obtain ⟨ps, e1, e2⟩ := rt_short s (decide_eq_true (by omega))
      exact ⟨_, 100, _, _, _, fun w vs h => h, e1, e2, fun E v hv => one_bool (by unfold rightB; rw [decide_eq_false (by omega)]; rfl) hv⟩
    by_cases h2 : 24 < s.size
    · obtain ⟨ps, e1, e2⟩ := rt_long s (decide_eq_false (by omega)) (decide_eq_true (by omega))
      exact ⟨_, 100, _, _, _, fun w vs h => h, e1, e2, fun E v hv => one_bool (by unfold rightB; rw [decide_eq_false (by omega)]; rfl) hv⟩
    have hl := ba_len s
    rcases all_or s.data.toList with ha | ⟨k, k1, k2, k3⟩
    · have hs := sum_loop gam_nil mixed (c := bodyN Try.f36 0) (fun k => rtSn s k) s.size (e := .exit 0) (s := ⟨[], [], 41, 0⟩) rfl (fun k hk => rt_step s (by omega) hk (all_at ha (by omega))) ⟨_, _, _, rt_exit s s.size (decide_eq_false (by omega))⟩
      obtain ⟨ps, e1, e2⟩ := rt_yes s (decide_eq_false (by omega)) (decide_eq_false (by omega)) hs
      exact ⟨_, 100, _, _, _, fun w vs h => h, e1, e2, fun E v hv => one_bool (by unfold rightB; rw [decide_eq_true (by omega), ha]; rfl) hv⟩
    · have hs := sum_loop gam_nil mixed (c := bodyN Try.f36 0) (fun k => rtSn s k) k (e := .ret) (s := rtEnd) rfl (fun j hj => rt_step s (by omega) (by omega) (k3 j hj)) (rt_bad s (by omega) k2)
      obtain ⟨ps, e1, e2⟩ := rt_no s (decide_eq_false (by omega)) (decide_eq_false (by omega)) hs
      have hf : s.data.toList.all okc = false := by
        cases hq : s.data.toList.all okc
        · rfl
        · rw [all_at hq k1] at k2
          cases k2
      exact ⟨_, 100, _, _, _, fun w vs h => h, e1, e2, fun E v hv => one_bool (by unfold rightB; rw [hf, Bool.and_false]) hv⟩
  · cases h
theorem rright_ok : FnOK Try.prog DF 39 rightF := by
  refine fnOK_of gam_nil mixed Try.func39 (enters_of Try.func39 (by kernel_rfl) rfl) ?_
  intro xs r ps h hps
  unfold rightF at h
  split at h
  · rename_i s
    simp only [Option.some.injEq, Prod.mk.injEq] at h
    obtain ⟨rfl, rfl⟩ := h
    have hz : s.size ≤ 9223372036854775807 := hps (s.size ≤ 9223372036854775807) (by simp)
    have hl := ba_len s
    rcases all_or s.data.toList with ha | ⟨k, k1, k2, k3⟩
    · have hs := sum_loop gam_nil mixed (c := bodyN Try.f39 0) (fun k => rrSn s k) s.size (e := .exit 0) (s := ⟨[(0, .v (.one (.str s)))], [], 42, 0⟩) rfl (fun k hk => rr_step s hz hk (all_at ha (by omega))) ⟨_, _, _, rr_exit s s.size (decide_eq_false (by omega))⟩
      by_cases h1 : s.size < 1
      · obtain ⟨ps, e1, e2⟩ := rr_short s hs (decide_eq_false (by omega))
        exact ⟨_, 100, _, _, _, fun w vs h => h, e1, e2, fun E v hv => one_bool (by unfold rightB; rw [decide_eq_false (by omega)]; rfl) hv⟩
      by_cases h2 : 24 < s.size
      · obtain ⟨ps, e1, e2⟩ := rr_long s hs (decide_eq_true (by omega)) (decide_eq_false (by omega))
        exact ⟨_, 100, _, _, _, fun w vs h => h, e1, e2, fun E v hv => one_bool (by unfold rightB; rw [decide_eq_false (by omega)]; rfl) hv⟩
      obtain ⟨ps, e1, e2⟩ := rr_yes s hs (decide_eq_true (by omega)) (decide_eq_true (by omega))
      exact ⟨_, 100, _, _, _, fun w vs h => h, e1, e2, fun E v hv => one_bool (by unfold rightB; rw [decide_eq_true (by omega), ha]; rfl) hv⟩
    · have hs := sum_loop gam_nil mixed (c := bodyN Try.f39 0) (fun k => rrSn s k) k (e := .ret) (s := rrEnd) rfl (fun j hj => rr_step s hz (by omega) (k3 j hj)) (rr_bad s (by omega) k2)
      obtain ⟨ps, e1, e2⟩ := rr_no s hs
      have hf : s.data.toList.all okc = false := by
        cases hq : s.data.toList.all okc
        · rfl
        · rw [all_at hq k1] at k2
          cases k2
      exact ⟨_, 100, _, _, _, fun w vs h => h, e1, e2, fun E v hv => one_bool (by unfold rightB; rw [hf, Bool.and_false]) hv⟩
  · cases h
end Go.Num
namespace Go.Num
open Go.Abs Go.Proofs Go.Shelf Go.RowKit Go.MapKept
theorem keyOK_str {r : Rec} (h : keyOK [.str] r = true) : ∃ s, r = [.s s] := by
  match r, h with
  | [.s s], _ => exact ⟨s, rfl⟩
theorem findNow_str (s : ByteArray) : ∀ (ens : List MapEntry) (ks : List Rec) (i : Nat), ens.map (·.key) = ks.map (keyV false [.str]) → (∀ k ∈ ks, keyOK [.str] k = true) →
    Instr.findNow .string (.string s) ens i = some (match ks.findIdx? (· == [Fd.s s]) with | some j => (ens[j]?).map fun e => (i + j, e.val) | none => none)
  | [], [], _, _, _ => rfl
  | [], _ :: _, _, h, _ => by cases h
  | _ :: _, [], _, h, _ => by cases h
  | e :: ens, k :: ks, i, h, hk => by
    obtain ⟨u, rfl⟩ := keyOK_str (hk k (List.mem_cons_self ..))
    simp only [List.map_cons, List.cons.injEq] at h
    have he : e.key = .string u := h.1
    have ih := findNow_str s ens ks (i + 1) h.2 (fun k hk' => hk k (List.mem_cons_of_mem _ hk'))
    unfold Instr.findNow
    rw [he]
    have hs : Instr.sameNow .string (.string s) (.string u) = some (s == u) := rfl
    rw [hs, List.findIdx?_cons]
    by_cases hsu : s = u
    · subst hsu
      have e1 : (s == s) = true := (bytes_beq s s).2 rfl
      have e2 : (([Fd.s s] : Rec) == [Fd.s s]) = true := beq_self_eq_true _
      rw [e1, e2]
      rfl
    · have e1 : (s == u) = false := Bool.eq_false_iff.2 (fun h => hsu ((bytes_beq s u).1 h))
      have e2 : (([Fd.s u] : Rec) == [Fd.s s]) = false := beq_eq_false_iff_ne.2 (fun h => by cases h; exact hsu rfl)
      rw [e1, e2]
      simp only [ih, Bool.false_eq_true, if_false]
      cases List.findIdx? (fun x => x == [Fd.s s]) ks with
      | none => rfl
      | some j =>
        simp only [Option.map_some, List.getElem?_cons_succ]
        rw [show i + 1 + j = i + (j + 1) from by omega]
theorem keyT_str : KeyT Try.prog 9 false [.str] := by
  intro w key hkey
  obtain ⟨s, rfl⟩ := keyOK_str hkey
  refine ⟨fun b => run_checkKey Try.underlying9 (d := .string) (k := .string s) trivial b 9999, fun ens ks h hk => ?_, fun k' hk' he => ?_⟩
  · refine run_findKey Try.underlying9 ?_
    have := findNow_str s ens ks 0 h hk
    simp only [Nat.zero_add] at this
    exact this
  · rw [he]
    exact run_keyThatStays (d := .string) (k := .string s) trivial
def dkP (room steps fuse : Int) (down : Bool) : List (Part DF.τ) := [.int .i64 false room, .mapr 1, .int .i64 false steps, .int .i64 false fuse, .bool false down]
def dkB (room steps fuse : Int) (down : Bool) (es : List (Rec × Ob)) : List (BoxSt DF.τ) := [.fixed 66 (dkP room steps fuse down), .fam 0 es none]
noncomputable def gamRt : Gam DF := [(36, .fn rightF)]
noncomputable def gamRtN : Gam DF := [(lookId, .fn (lookD DF [(29, 0)])), (36, .fn rightF)]
end Go.Num
namespace Go.Abs
open Go.RowKit Go.ChangeMaps Go.Maps Go.MapKept
def IterAt (w : World) (b r : Nat) (ens : Array MapEntry) (clock : Nat) (seen : Array Nat) : Prop :=
  w.heap[b]? = some (.map ens clock) ∧ ∃ c0, w.heap[r]? = some (.mapIter (some b) clock seen c0) ∧ clock ≤ c0
theorem IterAt.kept {w w' : World} {b r : Nat} {ens : Array MapEntry} {clock : Nat} {seen : Array Nat} {row : Option Nat} (h : IterAt w b r ens clock seen) (hg : w.grownBy w' row) (hb : some b ≠ row) (hr : some r ≠ row) :
    IterAt w' b r ens clock seen := by
  obtain ⟨h1, c0, h2, h3⟩ := h
  have l1 : b < w.heap.size := (Array.getElem?_eq_some_iff.1 h1).1
  have l2 : r < w.heap.size := (Array.getElem?_eq_some_iff.1 h2).1
  exact ⟨(hg.block b l1 hb).trans h1, c0, (hg.block r l2 hr).trans h2, h3⟩
theorem IterAt.lt {w : World} {b r : Nat} {ens : Array MapEntry} {clock : Nat} {seen : Array Nat} (h : IterAt w b r ens clock seen) : r < w.heap.size := by
  obtain ⟨h1, c0, h2, h3⟩ := h
  exact (Array.getElem?_eq_some_iff.1 h2).1
theorem IterAt.ne {w : World} {b r : Nat} {ens : Array MapEntry} {clock : Nat} {seen : Array Nat} (h : IterAt w b r ens clock seen) : r ≠ b := by
  obtain ⟨h1, c0, h2, h3⟩ := h
  intro e
  rw [e, h1] at h2
  cases h2
def leftSum (f : MapEntry → Int) (ens : Array MapEntry) (seen : Array Nat) : Int := ((leftOf ens seen).toList.map f).sum
theorem leftOf_list (ens : Array MapEntry) (seen : Array Nat) : (leftOf ens seen).toList = ens.toList.filter fun e => !seen.contains e.born := by
  unfold leftOf
  rw [Array.toList_filter]
theorem filter_less (f : MapEntry → Int) : ∀ (l : List MapEntry) (p : MapEntry → Bool) (e : MapEntry), (l.map (·.born)).Nodup → e ∈ l → p e = true →
    ((l.filter fun x => p x && !(x.born == e.born)).map f).sum = ((l.filter p).map f).sum - f e ∧ (l.filter fun x => p x && !(x.born == e.born)).length + 1 = (l.filter p).length
  | [], _, _, _, h, _ => by cases h
  | a :: l, p, e, hn, h, hp => by
    simp only [List.map_cons, List.nodup_cons] at hn
    rcases List.mem_cons.1 h with rfl | h
    · have hsame : l.filter (fun x => p x && !(x.born == e.born)) = l.filter p := by
        refine List.filter_congr fun x hx => ?_
        have : x.born ≠ e.born := fun he => hn.1 (List.mem_map.2 ⟨x, hx, he⟩)
        rw [beq_eq_false_iff_ne.2 this]
        simp
      have e1 : (p e && !(e.born == e.born)) = false := by simp
      rw [List.filter_cons_of_neg (by rw [e1]; decide), List.filter_cons_of_pos hp, hsame]
      simp only [List.map_cons, List.sum_cons, List.length_cons]
      exact ⟨by omega, trivial⟩
    · obtain ⟨h1, h2⟩ := filter_less f l p e hn.2 h hp
      have hne : a.born ≠ e.born := fun he => hn.1 (List.mem_map.2 ⟨e, h, he.symm⟩)
      have e1 : (p a && !(a.born == e.born)) = p a := by rw [beq_eq_false_iff_ne.2 hne]; simp
      cases hpa : p a
      · rw [List.filter_cons_of_neg (by rw [e1, hpa]; decide), List.filter_cons_of_neg (by rw [hpa]; decide)]
        exact ⟨h1, h2⟩
      · rw [List.filter_cons_of_pos (by rw [e1, hpa]), List.filter_cons_of_pos hpa]
        simp only [List.map_cons, List.sum_cons, List.length_cons]
        omega
theorem Born.nodup {ens : Array MapEntry} {clock : Nat} (h : Born ens clock) : (ens.toList.map (·.born)).Nodup := by
  refine List.Pairwise.imp ?_ h.1
  intro a b hab
  omega
theorem left_next (f : MapEntry → Int) {ens : Array MapEntry} {clock : Nat} {seen : Array Nat} (hB : Born ens clock) {e : MapEntry} (he : e ∈ (leftOf ens seen).toList) :
    leftSum f ens (seen.push e.born) = leftSum f ens seen - f e ∧ (leftOf ens (seen.push e.born)).size < (leftOf ens seen).size := by
  have h1 := mem_left he
  have hfun : (fun x : MapEntry => !(seen.push e.born).contains x.born) = fun x => (!seen.contains x.born) && !(x.born == e.born) := by
    funext x
    have : (seen.push e.born).contains x.born = (seen.contains x.born || x.born == e.born) := by
      rw [Array.contains_push]
    rw [this, Bool.not_or]
  obtain ⟨h2, h3⟩ := filter_less f ens.toList (fun x => !seen.contains x.born) e hB.nodup h1.1 (by simp only [h1.2, Bool.not_false])
  unfold leftSum
  rw [leftOf_list, hfun]
  refine ⟨?_, ?_⟩
  · rw [h2, ← leftOf_list]
  · rw [← Array.length_toList, ← Array.length_toList, leftOf_list, leftOf_list, hfun]
    omega
theorem left_start (f : MapEntry → Int) (ens : Array MapEntry) : leftSum f ens #[] = (ens.toList.map f).sum := by
  unfold leftSum
  rw [leftOf_list]
  congr 2
  exact List.filter_eq_self.2 (fun a _ => by simp)
theorem left_end (f : MapEntry → Int) {ens : Array MapEntry} {seen : Array Nat} (h : (leftOf ens seen).size = 0) : leftSum f ens seen = 0 := by
  unfold leftSum
  rw [← Array.length_toList, List.length_eq_zero_iff] at h
  rw [h]
  rfl
theorem left_bounds (f : MapEntry → Int) {ens : Array MapEntry} (seen : Array Nat) (h : ∀ e ∈ ens.toList, 0 ≤ f e) : 0 ≤ leftSum f ens seen ∧ leftSum f ens seen ≤ (ens.toList.map f).sum := by
  unfold leftSum
  rw [leftOf_list]
  generalize (fun e : MapEntry => !seen.contains e.born) = p
  revert h
  induction ens.toList with
  | nil => exact fun _ => ⟨Int.le_refl _, Int.le_refl _⟩
  | cons a l ih =>
    intro h
    have h1 := ih (fun e he => h e (List.mem_cons_of_mem _ he))
    have h2 := h a (List.mem_cons_self ..)
    cases hp : p a
    · rw [List.filter_cons_of_neg (by rw [hp]; decide), List.map_cons, List.sum_cons]
      omega
    · rw [List.filter_cons_of_pos hp, List.map_cons, List.map_cons, List.sum_cons, List.sum_cons]
      omega
section
variable {P : Program} (w : World) {ops : Array Oper} {rest : List Oper} {o : Oper} {a : Act} {Q : Exit → Act → World → Prop}
theorem wpList_range_it (hg : o.guard = none) (m : Operand) (t : TypeId) (hop : o.op = Op.range t m) (k e : TypeId) (ht : P.underlying t = some (.map k e)) (b : Nat) (ens : Array MapEntry) (clock : Nat)
    (hm : a.eval m = .map (some b)) (hb : w.heap[b]? = some (.map ens clock))
    (hK : ∀ w', IterAt w' b w.heap.size ens clock #[] → w.grownBy w' none → w'.heap.size = w.heap.size + 1 → wpList P ops Q rest (a.put o.dst (.pointer (some ⟨w.heap.size, 0, none⟩))) w') :
    wpList P ops Q (o :: rest) a w := by
  refine wpList_plain hg fun K' hK' => ?_
  have hrun := run_range_map w t k e b ens clock ht hb
  have hlt : b < w.heap.size := (Array.getElem?_eq_some_iff.1 hb).1
  unfold Oper.wp
  simp [execOp, hop, hm, hrun, Result.andThen]
  exact hK' _ _ (hK _ ⟨((heap_alloc w _).2 b hlt).trans hb, clock, (heap_alloc w _).1, Nat.le_refl _⟩ (World.grownBy_alloc w _ none) (by simp))
theorem wpList_next_it (hg : o.guard = none) (it : Operand) (hop : o.op = Op.next it false) (b r : Nat) (ens : Array MapEntry) (clock : Nat) (seen : Array Nat) (hB : Born ens clock)
    (hit : a.eval it = .pointer (some ⟨r, 0, none⟩)) (h : IterAt w b r ens clock seen)
    (hDone : (leftOf ens seen).size = 0 → wpList P ops Q rest (a.put o.dst (.tuple #[.bool false])) w)
    (hMore : ∀ (e : MapEntry) (w' : World), e ∈ ens.toList → e ∈ (leftOf ens seen).toList → IterAt w' b r ens clock (seen.push e.born) → w.grownBy w' (some r) → w'.heap.size = w.heap.size →
      (Instr.entry (.pointer (some ⟨r, 0, none⟩))).run P w' = .ok (.tuple #[e.key, e.val]) w' → wpList P ops Q rest (a.put o.dst (.tuple #[.bool true, e.key, e.val])) w') :
    wpList P ops Q (o :: rest) a w := by
  have hne := h.ne
  obtain ⟨hb, c0, hr, hc⟩ := h
  refine wpList_plain hg fun K' hK' => ?_
  unfold Oper.wp
  rcases run_next_at (P := P) w o.type r b clock c0 seen ens clock hr hb hB.2 hc with ⟨h0, hrun⟩ | ⟨e, he, w1, hal, hrun⟩
  · simp [execOp, hop, hit, hrun, Result.andThen]
    exact hK' _ _ (hDone h0)
  · simp [execOp, hop, hit, hrun, Result.andThen]
    have hr1 : w1.heap[r]? = some (.mapIter (some b) clock seen c0) := by rcases hal with rfl | rfl <;> exact hr
    have hb1 : w1.heap[b]? = some (.map ens clock) := by rcases hal with rfl | rfl <;> exact hb
    have hset := heap_set (o' := .mapIter (some b) clock (seen.push e.born) clock) hr1
    have hb' : (setBlock w1 r (.mapIter (some b) clock (seen.push e.born) clock)).heap[b]? = some (.map ens clock) := (hset.2 b (fun e1 => hne e1.symm)).trans hb1
    have hem := (mem_left he).1
    refine hK' _ _ (hMore e _ hem he ⟨hb', clock, hset.1, Nat.le_refl _⟩ ⟨?_, ?_, ?_, ?_, ?_⟩ ?_ ?_)
    · rcases hal with rfl | rfl <;> rfl
    · rcases hal with rfl | rfl <;> rfl
    · rcases hal with rfl | rfl <;> rfl
    · rcases hal with rfl | rfl <;> simp [setBlock]
    · intro k hk hkr
      refine (hset.2 k (fun e1 => hkr (by rw [e1]))).trans ?_
      rcases hal with rfl | rfl <;> rfl
    · rcases hal with rfl | rfl <;> simp [setBlock]
    · exact run_entry_at _ r b clock seen ens clock e hset.1 hb' hem hB.nodup
end
end Go.Abs
namespace Go.Num
open Go.Abs Go.Proofs Go.Shelf Go.RowKit Go.Maps
set_option maxRecDepth 100000 in
theorem free_walk (b g : Nat) (room : Int) (ens : Array MapEntry) (clock : Nat) (f : MapEntry → Int) (w : World) (hb : w.heap[b]? = some (.map ens clock)) (hB : Born ens clock)
    (hv : ∀ e ∈ ens.toList, ∃ a m k, e.val = .agg #[.slice a m k, .int .i64 (f e)]) (hn : ∀ e ∈ ens.toList, 0 ≤ f e) (ht : (ens.toList.map f).sum ≤ 1152921504606846976) (hr0 : -1099511627776 ≤ room) (hr1 : room ≤ 1099511627776)
    (h0 : w.cell? ⟨g, 0, none⟩ = some (.int .i64 room)) (h1 : w.cell? ⟨g, 1, none⟩ = some (.map (some b))) :
    Calls Try.prog 17 #[.pointer (some ⟨g, 0, none⟩)] w fun e w' => e = .returned (.int .i64 (room - (ens.toList.map f).sum)) ∧ w.grownBy w' none := by
  go_enter Try.func17, Try.ntmps17
  go_wp2_with (first
    | (at_range; refine wpList_range_it _ rfl _ 64 rfl 9 68 Try.underlying64 b ens clock rfl hb ?_; intro w0 hrg0 hg0 hs0)
    | go_in)
  go_frame
  go_loopw [3] (fun v wr => ∃ seen, IterAt wr b w.heap.size ens clock seen ∧ v = .int .i64 (room - ((ens.toList.map f).sum - leftSum f ens seen)) ∧ w.grownBy wr none)
    (fun _ wr => match wr.heap[w.heap.size]? with | some (.mapIter _ _ seen _) => (leftOf ens seen).size | _ => 0)
  case atStart => exact ⟨#[], hrg0, by rw [left_start]; simp, hg0⟩
  case round =>
    obtain ⟨seen, hrg, rfl, hgw⟩ := hrel
    have hμ : ∀ {wr : World} {seen : Array Nat}, IterAt wr b w.heap.size ens clock seen → (match wr.heap[w.heap.size]? with | some (.mapIter _ _ seen _) => (leftOf ens seen).size | _ => 0) = (leftOf ens seen).size := by
      intro wr seen h
      obtain ⟨_, c0, h2, _⟩ := h
      rw [h2]
    go_wp2_with (first
      | (at_next; refine wpList_next_it _ rfl _ rfl b w.heap.size ens clock seen hB rfl hrg ?_ ?_)
      | go_in)
    · intro hl0
      go_wp2
      go_ret
      refine ⟨?_, hgw⟩
      rw [left_end f (by rw [hl0]; rfl), Int.sub_zero]
      rfl
    · intro e w1 he hel hrg1 hg1 hs1 hen
      obtain ⟨a, m, k, hev⟩ := hv e (by simpa using he)
      rw [hev] at hen ⊢
      obtain ⟨hs, hlt⟩ := left_next f hB (by simpa using hel)
      have hle := left_bounds f (seen.push e.born) hn
      have hle0 := left_bounds f seen hn
      have hgw1 := hgw.andThen hg1 (fun j hj => by cases hj; exact Or.inl (Nat.le_refl _))
      go_wp2
      refine ⟨⟨_, hrg1.kept (World.grownBy_alloc w1 _ none) (by simp) (by simp), ?_, hgw1.andThen (World.grownBy_alloc _ _ none) (fun j hj => by cases hj)⟩, ?_⟩
      · rw [hs]
        congr 1
        omega
      · rw [hμ (hrg1.kept (World.grownBy_alloc w1 _ none) (by simp) (by simp)), hμ hrg]
        exact hlt
end Go.Num
namespace Go.Num
open Go.Abs Go.Proofs Go.Shelf Go.RowKit Go.Maps
section
variable {P : Program} {D : Dom}
theorem RR.grown {M : Mem} {w0 : World} {σ : Abs.Loc} {ν : Nat → Value} {S : St D.τ} {w w' : World} (hR : RR D M w0 σ ν S w) (hg : w.grownBy w' none) : RR D M w0 σ ν S w' := by
  refine hR.step ⟨fun _ h => h, fun _ _ => rfl, fun _ _ => rfl, rfl, rfl, ⟨rfl, rfl⟩, Loc.le_refl σ⟩ (fun _ => False) (fun _ h => h.elim) (fun b _ => Or.inl ⟨rfl, fun g h => ?_⟩) (fun _ _ _ h => h.elim) (fun _ _ h => h.elim) ?_ rfl (hR.zk_grown hg (fun g e => by cases e)) (fun _ _ h => h.elim) (fun b g _ h _ => hR.zd b g h) (fun g h => Or.inl h)
  · exact hg.block g (blk_lt hR h) (by simp)
  · exact hR.kept.trans ⟨hg.os, hg.tape, hg.output, hg.size, fun k hk _ => hg.block k hk (by simp)⟩
end
def safeOf (out : Option (Rec × Int)) (e : Rec × Ob) : Int := match out with
  | some (k, n) => if e.1 = k then n else obS e.2
  | none => obS e.2
def safeSum (out : Option (Rec × Int)) (es : List (Rec × Ob)) : Int := (es.map (safeOf out)).sum
def FreeOK (out : Option (Rec × Int)) (es : List (Rec × Ob)) (room : Int) : Prop :=
  (∀ e ∈ es, 0 ≤ safeOf out e) ∧ safeSum out es ≤ 1152921504606846976 ∧ -1099511627776 ≤ room ∧ room ≤ 1099511627776
theorem own_slice {E : Env} {w : World} {b : Nat} {e : TypeId} {p : Part DF.τ} (h : BoxRel0 DF E w b (.dyn e p)) : ∃ a m c, E.ν b = .slice a m c := by
  obtain ⟨n, xs, ⟨_, h1 | ⟨g, cap, cur, h1, _⟩⟩, _⟩ := h
  · exact ⟨_, _, _, h1.1⟩
  · exact ⟨_, _, _, h1⟩
def valS : Value → Int
  | .agg cs => match cs.toList with
    | [_, .int _ n] => n
    | _ => 0
  | _ => 0
def OutIs (S : St DF.τ) (out : Option (Rec × List (Part DF.τ))) (o : Option (Rec × Int)) : Prop :=
  (out = none ∧ o = none) ∨ ∃ k c lt n e p, out = some (k, [.own c, .int .i64 lt n]) ∧ o = some (k, n) ∧ S.box c = .dyn e p
theorem fam_files {M : Mem} {w0 : World} {σ : Abs.Loc} {ν : Nat → Value} {S : St DF.τ} {w : World} (hR : RR DF M w0 σ ν S w) {b : Nat} {es : List (Rec × Ob)} {out : Option (Rec × List (Part DF.τ))} {o : Option (Rec × Int)}
    (hb : S.box b = .fam 0 es out) (ho : OutIs S out o) : ∃ ens clock, w.heap[σ b]? = some (.map ens clock) ∧ Born ens clock ∧ ens.toList.map (·.key) = es.map (fun e => keyV false [.str] e.1) ∧ (∀ e ∈ es, keyOK [.str] e.1 = true) ∧ (es.map (·.1)).Nodup ∧
      (∀ e ∈ ens.toList, ∃ a m k, e.val = .agg #[.slice a m k, .int .i64 (valS e.val)]) ∧ ens.toList.map (fun e => valS e.val) = es.map (safeOf o) := by
  have hbox := hR.boxes b
  rw [hb] at hbox
  obtain ⟨fd, hfd, vs, Fs, hc, hnd, hlen, _, _, _, hent, _, _⟩ := hbox
  have hfd' : filesF = fd := Option.some.inj hfd
  subst hfd'
  obtain ⟨ens, clock, h1, h2, h3, h4, h5⟩ := hc
  have key : ∀ (i : Nat) k ob v, es[i]? = some (k, ob) → vs[i]? = some v → ∃ a m c, v = .agg #[.slice a m c, .int .i64 (safeOf o (k, ob))] := by
    intro i k ob v hi hv
    rcases hent i k ob v hi hv with ⟨ps, hout, hval⟩ | ⟨hno, σ', ν', _, _, hval, _, hbx, _⟩
    · rcases ho with ⟨h, _⟩ | ⟨k', c, lt, n, e, p, h, ho, hc⟩
      · rw [h] at hout; cases hout
      · rw [h] at hout
        cases hout
        obtain ⟨cs, rfl, c1, c2, rfl, ⟨_, _, rfl⟩, c3, c4, rfl, rfl, rfl⟩ := hval
        have hbc := hR.boxes c
        rw [hc] at hbc
        obtain ⟨a, m, q, hq⟩ := own_slice (E := S.env DF M w0 σ ν) hbc
        refine ⟨a, m, q, ?_⟩
        rw [hq, ho]
        show _ = Value.agg #[.slice a m q, .int .i64 (if k = k then n else obS ob)]
        rw [if_pos rfl]
        rfl
    · obtain ⟨cs, rfl, c1, c2, rfl, ⟨_, _, rfl⟩, c3, c4, rfl, rfl, rfl⟩ := hval
      have hb0 := (hbx 0 _ rfl).2.1
      obtain ⟨a, m, q, hq⟩ := own_slice (E := ienv σ' ν' 1) hb0
      refine ⟨a, m, q, ?_⟩
      have hq' : ν' 0 = .slice a m q := hq
      have hs : safeOf o (k, ob) = obS ob := by
        rcases ho with ⟨_, ho⟩ | ⟨k', c, lt, n, e, p, h, ho, hc⟩
        · rw [ho]; rfl
        · rw [ho]
          show (if k = k' then n else obS ob) = obS ob
          rw [if_neg]
          intro hk
          subst hk
          exact hno _ h
      rw [hs]
      show Value.agg [ν' 0, _].toArray = _
      rw [hq']
  have hlv : ens.toList.length = es.length := by
    have : (ens.toList.map (·.key)).length = ((es.map (·.1)).map (keyV filesF.kagg filesF.ksh)).length := by rw [h2]
    simpa using this
  refine ⟨ens, clock, h1, h4, by rw [h2, List.map_map]; rfl, fun e he => h5 e.1 (List.mem_map.2 ⟨e, he, rfl⟩), hnd, fun e he => ?_, ?_⟩
  · obtain ⟨i, hi, rfl⟩ := List.getElem_of_mem he
    have hie : i < es.length := by omega
    have hv : vs[i]? = some (ens.toList[i].val) := by
      rw [← h3, List.getElem?_map, List.getElem?_eq_getElem hi]
      rfl
    obtain ⟨a, m, c, hq⟩ := key i es[i].1 es[i].2 _ (by rw [List.getElem?_eq_getElem hie]) hv
    refine ⟨a, m, c, ?_⟩
    have : valS ens.toList[i].val = safeOf o (es[i].1, es[i].2) := by rw [hq]; rfl
    rw [this]
    exact hq
  · refine List.ext_getElem (by simpa using hlv) fun i hi1 hi2 => ?_
    simp only [List.length_map] at hi1 hi2
    have hv : vs[i]? = some (ens.toList[i].val) := by
      rw [← h3, List.getElem?_map, List.getElem?_eq_getElem hi1]
      rfl
    obtain ⟨a, m, c, hq⟩ := key i es[i].1 es[i].2 _ (by rw [List.getElem?_eq_getElem hi2]) hv
    rw [List.getElem_map, List.getElem_map, hq]
    rfl
def frRd : List (BoxSt DF.τ) → List (A0 DF.τ) → Option (List (Rec × Ob) × Int × Option (Rec × Int))
  | [.fixed t ps, .fam k es none], [.one (.ref 0 0)] => match ps with
    | [.int .i64 _ room, .mapr 1, _, _, _] => bif Nat.beq t 66 && Nat.beq k 0 then some (es, room, none) else none
    | _ => none
  | [.fixed t ps, .fam k es (some (key, qs)), .dyn _ _], [.one (.ref 0 0)] => match ps, qs with
    | [.int .i64 _ room, .mapr 1, _, _, _], [.own 2, .int .i64 _ n] => bif Nat.beq t 66 && Nat.beq k 0 then some (es, room, some (key, n)) else none
    | _, _ => none
  | _, _ => none
def freeQ (bs : List (BoxSt DF.τ)) (xs : List (A0 DF.τ)) : Option (AV DF.τ × List (BoxSt DF.τ) × List Prop) :=
  match frRd bs xs with
  | some (es, room, o) => some (.v (.one (.int .i64 false (room - safeSum o es))), bs, [FreeOK o es room])
  | none => none
theorem beq_and {a b c d : Nat} (h : (Nat.beq a b && Nat.beq c d) = true) : a = b ∧ c = d := by
  simp only [Bool.and_eq_true] at h
  exact ⟨Nat.eq_of_beq_eq_true h.1, Nat.eq_of_beq_eq_true h.2⟩
theorem frRd_is {bs : List (BoxSt DF.τ)} {xs : List (A0 DF.τ)} {es : List (Rec × Ob)} {room : Int} {o : Option (Rec × Int)} (h : frRd bs xs = some (es, room, o)) :
    xs = [.one (.ref 0 0)] ∧ ∃ lt p3 p4 p5 out, (bst bs.length bs).box 0 = .fixed 66 [.int .i64 lt room, .mapr 1, p3, p4, p5] ∧ (bst bs.length bs).box 1 = .fam 0 es out ∧ OutIs (bst bs.length bs) out o := by
  unfold frRd at h
  split at h
  · rename_i t ps k es'
    split at h
    · rename_i lt r p3 p4 p5
      cases hb : (Nat.beq t 66 && Nat.beq k 0) <;> simp only [hb, cond_true, cond_false] at h
      · cases h
      · obtain ⟨rfl, rfl⟩ := beq_and hb
        cases h
        exact ⟨rfl, lt, p3, p4, p5, none, rfl, rfl, Or.inl ⟨rfl, rfl⟩⟩
    · cases h
  · rename_i t ps k es' key qs e p
    split at h
    · rename_i lt r p3 p4 p5 lt' n
      cases hb : (Nat.beq t 66 && Nat.beq k 0) <;> simp only [hb, cond_true, cond_false] at h
      · cases h
      · obtain ⟨rfl, rfl⟩ := beq_and hb
        cases h
        exact ⟨rfl, lt, p3, p4, p5, _, rfl, rfl, Or.inr ⟨_, _, _, _, _, _, rfl, rfl, rfl⟩⟩
    · cases h
  · cases h
theorem free_ok : OpOK Try.prog DF 17 freeQ := by
  intro bs xs r bs' ps hF hps w σ ν vs hR hx
  unfold freeQ at hF
  split at hF
  · rename_i es room o hrd
    simp only [Option.some.injEq, Prod.mk.injEq] at hF
    obtain ⟨rfl, rfl, rfl⟩ := hF
    obtain ⟨hf1, hf2, hf3, hf4⟩ : FreeOK o es room := hps _ (List.mem_cons_self ..)
    obtain ⟨rfl, lt, p3, p4, p5, out, hb0, hb1, ho⟩ := frRd_is hrd
    obtain ⟨v, us, rfl, ⟨_, _, hv⟩, rfl⟩ := hx
    simp only [List.cons.injEq, and_true] at hv
    subst hv
    obtain ⟨ens, clock, h1, h2, _, _, _, h5, h6⟩ := fam_files hR hb1 ho
    have hx0 := hR.boxes 0
    rw [hb0] at hx0
    obtain ⟨cs, hcs, c1, c2, hc, h7, c3, c4, hc2, h8, h9⟩ := hx0
    have hcs' : cs.toList = [] ++ ([.int .i64 room, .map (some (σ 1))] ++ c4) := by
      rw [hc, hc2, show c1 = _ from h7, show c3 = _ from h8.2]
      rfl
    have hcell := cells_at hcs hcs'
    refine ⟨_, _, enters_of Try.func17 (by kernel_rfl) rfl _ w, ?_⟩
    have hsum : (ens.toList.map fun e => valS e.val).sum = safeSum o es := by rw [h6]; rfl
    have hpos : ∀ e ∈ ens.toList, 0 ≤ valS e.val := by
      intro e he
      have hm : valS e.val ∈ es.map (safeOf o) := by rw [← h6]; exact List.mem_map.2 ⟨e, he, rfl⟩
      obtain ⟨x, hx, hxe⟩ := List.mem_map.1 hm
      rw [← hxe]
      exact hf1 x hx
    refine (free_walk (σ 1) (σ 0) room ens clock (fun e => valS e.val) w h1 h2 h5 hpos (by rw [hsum]; exact hf2) hf3 hf4 (hcell 0 _ rfl) (hcell 1 _ rfl)).mono ?_
    rintro en w' ⟨rfl, hg⟩
    refine ⟨_, rfl, σ, ν, RR.grown hR hg, ?_⟩
    rw [hsum]
    exact ⟨rfl, rfl⟩
  · cases hF
end Go.Num
namespace Go.Proofs
open Go.RowKit Go.Maps Go.Sort Go.Shelf
shelf_lay_g SlLaysZ.n7 Ggz 7 at Try 46 as Try.keysF
shelf_lay_g SlLaysZ.n6 Ggz 6 at Try 45 as Try.sortedF
shelf_lay_g SlLaysM.n6 Slgm 6 at Try 49 as Try.sortF
theorem Try.sortsF (m : Nat) : AnyZ.SortsIn Try.prog Try.sortedF_ren Fence.wide m :=
  ⟨fun blk off cap ss W hH hblk hsz => callsIn_wide.2 (AnyM.slices_Sort_string Try.sortF blk off cap ss W hH hblk hsz),
   fun p cap W => callsIn_wide.2 (AnyM.slices_Sort_string_none Try.sortF p cap W)⟩
theorem Try.maps_Keys_f (mb : Option Nat) (W : World) : CallsIn Fence.wide 5 Try.prog 46 #[.map mb] W fun e w' => e = .returned (.func (.func 50) #[] #[.pointer (some ⟨W.heap.size, 0, none⟩)]) ∧ w' = W.alloc (.cells #[.map mb] 64) :=
  AnyZ.keys_in Try.keysF Fence.wide 5 trivial rfl mb W
set_option maxHeartbeats 1000000 in
theorem Try.slices_Sorted_keys_f {H : Type} (b nn : Nat) (D0 : DataW H) (R : Value → Option (DataW H × List MemPlace)) (w : World) (hown : w.ownsMap Try.prog 9 R b nn D0) (hmax : Maps.size D0 ≤ maxLen) (hbytes : Maps.size D0 * 16 ≤ 140737488355328) :
    CallsIn Fence.wide 5 Try.prog 45 #[.func (.func 50) #[] #[.pointer (some ⟨w.heap.size, 0, none⟩)]] (w.alloc (.cells #[.map (some b)] 64)) fun e w' => ∃ (v : Value) (ss : List (List UInt8)), e = .returned v ∧ ss.Perm (strKeys D0) ∧
      w'.ownsRow (w.alloc (.cells #[.map (some b)] 64)).heap.size 9 1 v ss.length ((ss.mergeSort (fun x y => decide (x ≤ y))).map encStr) ∧ (v = .slice none 0 0 ↔ ss = []) ∧ Below (w.alloc (.cells #[.map (some b)] 64)).heap.size (w.alloc (.cells #[.map (some b)] 64)) w' := by
  have hbl := hown.lt
  have hseq : SeqGives Fence.wide 2 Try.prog 50 #[.pointer (some ⟨w.heap.size, 0, none⟩)] encStr (fun ss => ss.Perm (strKeys D0)) (Maps.size D0) (w.alloc (.cells #[.map (some b)] 64)) :=
    AnyZ.keys_gives (ρ := Try.keysF_ren) { Try.keysF with } Fence.wide _ trivial rfl (by omega) w.heap.size b nn D0 _ (by simp) (by simp) (by
      obtain ⟨es, clock, hb, Ft, hs, hD⟩ := hown
      exact ⟨es, clock, (Below.heap_alloc _ _ b hbl).trans hb, Ft, hs, hD⟩)
  exact AnyZ.sorted_in Try.sortedF Fence.wide 5 trivial trivial trivial trivial rfl (by omega) (Try.sortsF _) (enters_of Try.func49 (by kernel_rfl) rfl) 50 #[.pointer (some ⟨w.heap.size, 0, none⟩)] trivial (enters_of Try.func50 (by kernel_rfl) rfl) _ _ hmax hbytes _ hseq
end Go.Proofs
namespace Go.Num
open Go.Abs Go.Proofs Go.Shelf Go.RowKit Go.Maps Go.Sort
section
variable {P : Program} {D : Dom}
theorem bst_push (n : Nat) (bs : List (BoxSt D.τ)) (h : bs.length = n) (s : BoxSt D.τ) : (bst n (bs ++ [s])).box = ((bst n bs).upd (.box n s)).box := by
  subst h
  funext i
  show _ = (bif Nat.beq i bs.length then s else (bst bs.length bs).box i)
  rw [bst_box, bst_box]
  by_cases hi : i = bs.length
  · subst hi
    rw [Nat.beq_refl]
    simp
  · rw [beq_ne hi]
    by_cases hlt : i < bs.length
    · rw [List.getElem?_append_left hlt]
      rfl
    · rw [List.getElem?_eq_none (by simp; omega), List.getElem?_eq_none (by omega)]
      rfl
theorem RR.newOwn {M : Mem} {w0 : World} {σ : Abs.Loc} {ν : Nat → Value} {n : Nat} {bs : List (BoxSt D.τ)} {w w' : World} (hR : RR D M w0 σ ν (bst n bs) w) (hn : bs.length = n) (hg : w.grownBy w' none) {e : TypeId} {p : Part D.τ} {m : Nat} {xs : List Value} {v : Value}
    (hown : w'.ownsL 0 e (esz D p) v m xs) (hp : PartRel D ((bst n bs).env D M w0 σ ν) p xs) (h1 : v.oneCell' = true) (hv : ∀ g, v.ownBlock = some g → w.heap.size ≤ g) :
    ∃ σ' ν', RR D M w0 σ' ν' (bst n (bs ++ [.dyn e p])) w' ∧ AVRel D ((bst n (bs ++ [.dyn e p])).env D M w0 σ' ν') (.v (.one (.own n))) v := by
  have hun : (bst n bs).box n = .un := by
    rw [bst_box, List.getElem?_eq_none (by omega)]
    rfl
  have hA : RA D M w0 σ ν (bst n bs) ⟨#[], []⟩ := ⟨rfl, rfl, fun t av h => by cases h⟩
  obtain ⟨σ', ν', h2, _, h4⟩ := lands_dynE hR hA (old := []) (qs := []) hun hown hp h1 hg (fun g h => by cases h) (fun g h => .inl (hv g h))
  have hbx : (bst n (bs ++ [.dyn e p])).box = ((bst n bs).bx [(n, .dyn e p)]).box := bst_push n bs hn _
  refine ⟨σ', ν', h2.same hbx rfl, ?_⟩
  have := env_same (M := M) (w0 := w0) (σ := σ') (ν := ν') hbx
  rw [this]
  exact h4
theorem grown_of_below {w w' : World} (h : Below w.heap.size w w') : w.grownBy w' none := ⟨h.os, h.tape, h.output, h.size, fun k hk _ => h.block k hk⟩
end
theorem keyOf_str {s : ByteArray} (h : s.size ≤ maxLen) : keyOf Try.prog 9 (.string s) = some (.string s.data.toList) := by
  rw [keyOf_string Try.underlying9]
  unfold mapKey
  simp [Try.underlying9, h]
set_option maxRecDepth 100000 in
theorem names_walk {H : Type} (b g nn : Nat) (D0 : DataW H) (R : Value → Option (DataW H × List MemPlace)) (w : World) (hown : w.ownsMap Try.prog 9 R b nn D0) (hmax : Maps.size D0 ≤ maxLen) (hbytes : Maps.size D0 * 16 ≤ 140737488355328)
    (h1 : w.cell? ⟨g, 1, none⟩ = some (.map (some b))) :
    Calls Try.prog 34 #[.pointer (some ⟨g, 0, none⟩)] w fun e w' => ∃ (v : Value) (ss : List (List UInt8)), e = .returned v ∧ ss.Perm (strKeys D0) ∧
      w'.ownsRow w.heap.size 9 1 v ss.length ((ss.mergeSort (fun x y => decide (x ≤ y))).map encStr) ∧ Below w.heap.size w w' := by
  refine (callsIn_wide (n := 6)).1 ?_
  have hfK : Fence.wide.fn 46 := trivial
  have hfS : Fence.wide.fn 45 := trivial
  refine callsIn_of_wp Try.func34 rfl trivial ?_ rfl
  simp only [Try.ntmps34, List.size_toArray, List.length_cons, List.length_nil, Nat.reduceAdd, Nat.reduceSub, Array.replicate_succ, Array.replicate_zero, List.push_toArray, List.append_toArray, List.nil_append, List.cons_append]
  gi_wp2_with (first
    | (gi_at_call 46; refine (Try.maps_Keys_f _ _).mono ?_; rintro e w' ⟨rfl, rfl⟩)
    | (gi_at_call 45; refine (Try.slices_Sorted_keys_f b nn D0 R w hown hmax hbytes).mono ?_; rintro e w' ⟨v, ss, rfl, hS, hrow, hnil, hb⟩))
  go_ret
  refine ⟨v, ss, rfl, hS, ?_, ((Below.refl _ w).alloc (Nat.le_refl _) _).trans (hb.mono (by simp))⟩
  obtain ⟨e1, e2⟩ := hrow
  refine ⟨e1, ?_⟩
  rcases e2 with e2 | ⟨g', cap, cur, q1, q2, q3⟩
  · exact Or.inl e2
  · refine Or.inr ⟨g', cap, cur, q1, ?_, q3⟩
    simp at q2
    omega
def keyL (es : List (Rec × Ob)) : List (List UInt8) := es.map fun e => (recS e.1 0).data.toList
def sortK (es : List (Rec × Ob)) : List Rec := ((keyL es).mergeSort leB).map fun l => [Fd.s ⟨l.toArray⟩]
def Short (es : List (Rec × Ob)) : Prop := es.length ≤ 1000000 ∧ ∀ e ∈ es, (recS e.1 0).size ≤ 1000000
theorem leB_trans (a b c : List UInt8) : leB a b = true → leB b c = true → leB a c = true := by
  simp only [leB, decide_eq_true_eq]
  exact fun h1 h2 => List.le_trans h1 h2
theorem leB_total (a b : List UInt8) : (leB a b || leB b a) = true := by
  simp only [leB, Bool.or_eq_true, decide_eq_true_eq]
  exact List.le_total a b
theorem leB_anti (a b : List UInt8) : leB a b = true → leB b a = true → a = b := by
  simp only [leB, decide_eq_true_eq]
  exact fun h1 h2 => List.le_antisymm h1 h2
theorem sort_perm {l l' : List (List UInt8)} (h : l.Perm l') : l.mergeSort leB = l'.mergeSort leB := by
  refine List.Perm.eq_of_pairwise (le := fun a b => leB a b = true) (fun a b _ _ h1 h2 => leB_anti a b h1 h2) (List.pairwise_mergeSort leB_trans leB_total l) (List.pairwise_mergeSort leB_trans leB_total l') ?_
  exact (List.mergeSort_perm l leB).trans (h.trans (List.mergeSort_perm l' leB).symm)
def nmRd : List (BoxSt DF.τ) → List (A0 DF.τ) → Option (List (Rec × Ob))
  | [.fixed t ps, .fam k es none], [.one (.ref 0 0)] => match ps with
    | [.int .i64 _ _, .mapr 1, _, _, _] => bif Nat.beq t 66 && Nat.beq k 0 then some es else none
    | _ => none
  | _, _ => none
def namesQ (bs : List (BoxSt DF.τ)) (xs : List (A0 DF.τ)) : Option (AV DF.τ × List (BoxSt DF.τ) × List Prop) :=
  match nmRd bs xs with
  | some es => some (.v (.one (.own 2)), bs ++ [.dyn 9 (.lrs [.str] (sortK es))], [Short es])
  | none => none
theorem nmRd_is {bs : List (BoxSt DF.τ)} {xs : List (A0 DF.τ)} {es : List (Rec × Ob)} (h : nmRd bs xs = some es) :
    xs = [.one (.ref 0 0)] ∧ bs.length = 2 ∧ ∃ lt room p3 p4 p5, (bst bs.length bs).box 0 = .fixed 66 [.int .i64 lt room, .mapr 1, p3, p4, p5] ∧ (bst bs.length bs).box 1 = .fam 0 es none := by
  unfold nmRd at h
  split at h
  · rename_i t ps k es'
    split at h
    · rename_i lt r p3 p4 p5
      cases hb : (Nat.beq t 66 && Nat.beq k 0) <;> simp only [hb, cond_true, cond_false] at h
      · cases h
      · obtain ⟨rfl, rfl⟩ := beq_and hb
        cases h
        exact ⟨rfl, rfl, lt, r, p3, p4, p5, rfl, rfl⟩
    · cases h
  · cases h
theorem str_rows (σ : Abs.Loc) : ∀ (ls : List (List UInt8)) (i : Nat) (r : Rec), (ls.map fun l => ([Fd.s ⟨l.toArray⟩] : Rec))[i]? = some r → RecRel σ [.str] 0 r (((ls.map encStr).drop (i * 1)).take 1)
  | [], i, r, h => by simp at h
  | l :: ls, 0, r, h => by
    simp only [List.map_cons, List.getElem?_cons_zero, Option.some.injEq] at h
    subst h
    exact ⟨[_], [], rfl, rfl, rfl⟩
  | l :: ls, i + 1, r, h => by
    simp only [List.map_cons, List.getElem?_cons_succ] at h
    have := str_rows σ ls i r h
    rw [Nat.mul_one] at this ⊢
    exact this
theorem names_ok : OpOK Try.prog DF 34 namesQ := by
  intro bs xs r bs' ps hF hps w σ ν vs hR hx
  unfold namesQ at hF
  split at hF
  · rename_i es hrd
    simp only [Option.some.injEq, Prod.mk.injEq] at hF
    obtain ⟨rfl, rfl, rfl⟩ := hF
    obtain ⟨hs1, hs2⟩ : Short es := hps _ (List.mem_cons_self ..)
    obtain ⟨rfl, hlen, lt, room, p3, p4, p5, hb0, hb1⟩ := nmRd_is hrd
    obtain ⟨v, us, rfl, ⟨_, _, hv⟩, rfl⟩ := hx
    simp only [List.cons.injEq, and_true] at hv
    subst hv
    obtain ⟨ens, clock, h1, h2, h3, h4, h5, _, _⟩ := fam_files hR hb1 (o := none) (Or.inl ⟨rfl, rfl⟩)
    have hx0 := hR.boxes 0
    rw [hb0] at hx0
    obtain ⟨cs, hcs, c1, c2, hc, h7, c3, c4, hc2, h8, h9⟩ := hx0
    have hcs' : cs.toList = [] ++ ([.int .i64 room, .map (some (σ 1))] ++ c4) := by
      rw [hc, hc2, show c1 = _ from h7, show c3 = _ from h8.2]
      rfl
    have hcell := cells_at hcs hcs'
    have hsz : ens.toList.length = es.length := by
      have : (ens.toList.map (·.key)).length = (es.map fun e => keyV false [.str] e.1).length := by rw [h3]
      simpa using this
    have hkv : ∀ e ∈ es, keyV false [.str] e.1 = .string (recS e.1 0) := by
      intro e he
      obtain ⟨s, hs⟩ := keyOK_str (h4 e he)
      rw [hs]; rfl
    have hkeys : ens.toList.map (·.key) = es.map fun e => Value.string (recS e.1 0) := by
      rw [h3]
      exact List.map_congr_left hkv
    have hrd1 : ∀ x ∈ ens.toList, ∃ e ∈ es, x.key = .string (recS e.1 0) := by
      intro x hx
      have : x.key ∈ es.map fun e => Value.string (recS e.1 0) := by rw [← hkeys]; exact List.mem_map.2 ⟨x, hx, rfl⟩
      obtain ⟨e, he, hke⟩ := List.mem_map.1 this
      exact ⟨e, he, hke.symm⟩
    let RC : Value → Option (DataW Unit × List MemPlace) := fun _ => some (.nil, [])
    have hrd2 : ∀ x ∈ ens.toList, Go.WideElems.rd Try.prog 9 RC x = some (.string (match x.key with | .string s => s.data.toList | _ => []), .nil) := by
      intro x hx
      obtain ⟨e, he, hke⟩ := hrd1 x hx
      unfold Go.WideElems.rd
      rw [hke, keyOf_str (by have := hs2 e he; unfold maxLen; omega)]
      rfl
    have hown : w.ownsMap Try.prog 9 RC (σ 1) ens.size (.map ((ens.toList.map (Go.WideElems.rg Try.prog 9 RC)).foldr DataW.insert [])) := by
      refine ⟨ens, clock, h1, ⟨?_, (Go.MapKept.stamped_iff ens clock).2 ⟨h2.2, h2.nodup, ?_⟩, fun x hx => ⟨_, hrd2 x hx⟩⟩, Nat.le_refl _, rfl⟩
      · rw [← Array.length_toList, hsz]; unfold maxLen; omega
      · have hnd : (ens.toList.map (·.key)).Nodup := by
          rw [hkeys]
          refine List.Pairwise.map _ (R := fun a b : Rec × Ob => recS a.1 0 ≠ recS b.1 0 ) (fun a b hab he => hab (by injection he)) ?_
          have h5' := List.pairwise_map.1 h5
          refine List.Pairwise.imp_of_mem ?_ h5'
          intro a b ha hb hab he
          obtain ⟨s, hs⟩ := keyOK_str (h4 a ha)
          obtain ⟨t, ht⟩ := keyOK_str (h4 b hb)
          refine hab ?_
          rw [hs, ht] at he ⊢
          have he' : s = t := he
          rw [he']
        exact List.pairwise_map.1 hnd
    have hsize : Maps.size (DataW.map ((ens.toList.map (Go.WideElems.rg Try.prog 9 RC)).foldr DataW.insert [])) = es.length := by
      show ((ens.toList.map (Go.WideElems.rg Try.prog 9 RC)).foldr DataW.insert []).length = _
      rw [(WideShapes.sorted_perm _).length_eq, List.length_map, hsz]
    have hst : (strKeys (DataW.map ((ens.toList.map (Go.WideElems.rg Try.prog 9 RC)).foldr DataW.insert []))).Perm (keyL es) := by
      refine ((WideShapes.sorted_perm (ens.toList.map (Go.WideElems.rg Try.prog 9 RC))).map fun p => strOf p.1).trans ?_
      rw [List.map_map]
      have : ens.toList.map ((fun p : Lit × DataW Unit => strOf p.1) ∘ Go.WideElems.rg Try.prog 9 RC) = keyL es := by
        have e1 : ens.toList.map ((fun p : Lit × DataW Unit => strOf p.1) ∘ Go.WideElems.rg Try.prog 9 RC) = (ens.toList.map (·.key)).map fun k => match k with | .string s => s.data.toList | _ => [] := by
          rw [List.map_map]
          refine List.map_congr_left fun x hx => ?_
          simp only [Function.comp_apply]
          rw [Go.WideElems.rg_of (hrd2 x hx)]
          cases x.key <;> rfl
        rw [e1, hkeys, List.map_map]
        rfl
      rw [this]
    refine ⟨_, _, enters_of Try.func34 (by kernel_rfl) rfl _ w, ?_⟩
    refine (names_walk (σ 1) (σ 0) ens.size _ RC w hown (by rw [hsize]; unfold maxLen; omega) (by rw [hsize]; omega) (hcell 1 _ rfl)).mono ?_
    rintro en w' ⟨v, ss, rfl, hperm, hrow, hbelow⟩
    refine ⟨v, rfl, ?_⟩
    have hsort : ss.mergeSort (fun x y => decide (x ≤ y)) = (keyL es).mergeSort leB := sort_perm (hperm.trans hst)
    rw [hsort] at hrow
    have hg := grown_of_below hbelow
    have hrow0 : w'.ownsL 0 9 1 v ss.length (((keyL es).mergeSort leB).map encStr) := by
      obtain ⟨e1, e2⟩ := hrow.loose
      refine ⟨e1, ?_⟩
      rcases e2 with e2 | ⟨g', cap, cur, q1, q2, q3⟩
      · exact Or.inl e2
      · exact Or.inr ⟨g', cap, cur, q1, Nat.zero_le _, q3⟩
    have h1c : v.oneCell' = true := by
      rcases hrow.2 with ⟨rfl, _⟩ | ⟨g', cap, cur, rfl, _⟩ <;> rfl
    rw [hlen]
    refine RR.newOwn (by rw [← hlen]; exact hR) hlen hg (e := 9) (p := .lrs [.str] (sortK es)) hrow0 ⟨?_, fun i r hi => ?_⟩ h1c ?_
    · unfold sortK
      simp [rsz, FK.size]
    · exact str_rows _ _ i r hi
    · intro g hgv
      rcases hrow.2 with ⟨rfl, _⟩ | ⟨g', cap, cur, rfl, q, _⟩
      · cases hgv
      · cases hgv
        exact q
  · cases hF
end Go.Num
namespace Go.Num
open Go.Abs Go.Proofs Go.Shelf Go.RowKit
def errF (dn : Bool) (es : List (Rec × Ob)) (s : ByteArray) : Int := if dn = true then 2 else if rightB s = true then (if hasE es [Fd.s s] = true then 0 else 41) else 40
def dkRd : List (BoxSt DF.τ) → Option (Int × Int × Int × Bool × List (Rec × Ob))
  | [.fixed t ps, .fam k es none] => match ps with
    | [.int .i64 _ ro, .mapr 1, .int .i64 _ st, .int .i64 _ fu, .bool _ dn] => bif Nat.beq t 66 && Nat.beq k 0 then some (ro, st, fu, dn, es) else none
    | _ => none
  | _ => none
abbrev DkT := Int × Int × Int × Bool × List (Rec × Ob)
def dkBt (d : DkT) : List (BoxSt DF.τ) := dkB d.1 d.2.1 d.2.2.1 d.2.2.2.1 d.2.2.2.2
def fiRd (bs : List (BoxSt DF.τ)) : List (A0 DF.τ) → Option (DkT × ByteArray)
  | [.one (.ref 0 0), .one (.str s)] => match dkRd bs with
    | some d => some (d, s)
    | none => none
  | _ => none
def fiPre (t : DkT × ByteArray) : List (BoxSt DF.τ) × List (A0 DF.τ) := (dkBt t.1, [.one (.ref 0 0), .one (.str t.2)])
def fZv (e : Int) : AV DF.τ := .tup [.agg [.nil, .int .i64 true 0], .one (.int .i64 false e)]
noncomputable def findBadQ := mkF DF Try.f31.ntmps fiRd fiPre (fun t => some (fZv (errF t.1.2.2.2.1 t.1.2.2.2.2 t.2), dkBt t.1, [errF t.1.2.2.2.1 t.1.2.2.2.2 t.2 ≠ 0, t.2.size ≤ 9223372036854775807]))
def dkO (d : DkT) (k : Rec) (l : List Int) (n : Int) : List (BoxSt DF.τ) := [.fixed 66 (dkP d.1 d.2.1 d.2.2.1 d.2.2.2.1), .fam 0 d.2.2.2.2 (some (k, [.own 2, .int .i64 false n])), .dyn 5 (.ints .u8 l)]
noncomputable def findOkQ := mkF DF Try.f31.ntmps fiRd fiPre (fun t => some (.tup [.agg [.own 2, .int .i64 false (obS (obE t.1.2.2.2.2 [Fd.s t.2]))], .one (.int .i64 true 0)],
  dkO t.1 [Fd.s t.2] (obD (obE t.1.2.2.2.2 [Fd.s t.2])) (obS (obE t.1.2.2.2.2 [Fd.s t.2])), [errF t.1.2.2.2.1 t.1.2.2.2.2 t.2 = 0, t.2.size ≤ 9223372036854775807]))
theorem gamRt_ok : GamOK Try.prog DF gamRt := gam_cons right_ok gam_nil
theorem fi_down (s : ByteArray) (ro st fu e : Int) (dn : Bool) (es : List (Rec × Ob))
 (h1 : (dn = true))
 (h2 : ((2 : Int) = e)) :
 ∃ ps, runO Try.prog DF gamRt 100 Try.f31 (dkB ro st fu dn es, [.one (.ref 0 0), .one (.str s)]) [.is true] (fZv e) (dkB ro st fu dn es) = some ps ∧ AllQ ps := ⟨_, by kernel_rfl, qc h1 (qc h2 (qc (Eq.refl ro) (qc (Eq.refl st) (qc (Eq.refl fu) (qc (Eq.refl dn) (qc (Eq.refl es) (qn)))))))⟩
theorem fi_name (s : ByteArray) (ro st fu e : Int) (dn : Bool) (es : List (Rec × Ob))
 (h1 : (dn = false))
 (h2 : ((rightB s) = false))
 (h3 : ((ByteArray.size s) ≤ (9223372036854775807 : Nat)))
 (h4 : ((40 : Int) = e)) :
 ∃ ps, runO Try.prog DF gamRt 100 Try.f31 (dkB ro st fu dn es, [.one (.ref 0 0), .one (.str s)]) [.is false, .is false] (fZv e) (dkB ro st fu dn es) = some ps ∧ AllQ ps := ⟨_, by kernel_rfl, qc h1 (qc h2 (qc h3 (qc h4 (qc (Eq.refl ro) (qc (Eq.refl st) (qc (Eq.refl fu) (qc (Eq.refl dn) (qc (Eq.refl es) (qn)))))))))⟩
theorem fi_gone (s : ByteArray) (ro st fu e : Int) (dn : Bool) (es : List (Rec × Ob))
 (h1 : (dn = false))
 (h2 : ((rightB s) = true))
 (h3 : ((ByteArray.size s) ≤ (9223372036854775807 : Nat)))
 (h4 : (KeyT Try.prog (9 : TypeId) false [FK.str]))
 (h5 : ((keyOK [FK.str] [(Fd.s s)]) = true))
 (h6 : ((hasE es [(Fd.s s)]) = false))
 (h7 : ((41 : Int) = e)) :
 ∃ ps, runO Try.prog DF gamRtN 100 Try.f31 (dkB ro st fu dn es, [.one (.ref 0 0), .one (.str s)]) [.is false, .is true] (fZv e) (dkB ro st fu dn es) = some ps ∧ AllQ ps := ⟨_, by kernel_rfl, qc h1 (qc h2 (qc h3 (qc h4 (qc h5 (qc h6 (qc h7 (qc (Eq.refl ro) (qc (Eq.refl st) (qc (Eq.refl fu) (qc (Eq.refl dn) (qc (Eq.refl es) (qn))))))))))))⟩
theorem fi_ok (s : ByteArray) (ro st fu : Int) (dn : Bool) (es : List (Rec × Ob)) (l : List Int) (n : Int)
 (h1 : (dn = false))
 (h2 : ((rightB s) = true))
 (h3 : ((ByteArray.size s) ≤ (9223372036854775807 : Nat)))
 (h4 : (KeyT Try.prog (9 : TypeId) false [FK.str]))
 (h5 : ((keyOK [FK.str] [(Fd.s s)]) = true))
 (h6 : ((hasE es [(Fd.s s)]) = true))
 (h7 : ((obS (obE es [(Fd.s s)])) = n))
 (h8 : ((obD (obE es [(Fd.s s)])) = l)) :
 ∃ ps, runO Try.prog DF gamRt 100 Try.f31 (dkB ro st fu dn es, [.one (.ref 0 0), .one (.str s)]) [.is false, .is true] (.tup [.agg [.own 2, .int .i64 false n], .one (.int .i64 true 0)]) [.fixed 66 (dkP ro st fu dn), .fam 0 es (some ([Fd.s s], [.own 2, .int .i64 false n])), .dyn 5 (.ints .u8 l)] = some ps ∧ AllQ ps := ⟨_, by kernel_rfl, qc h1 (qc h2 (qc h3 (qc h4 (qc h5 (qc h6 (qc h7 (qc (Eq.refl ro) (qc (Eq.refl st) (qc (Eq.refl fu) (qc (Eq.refl dn) (qc (Eq.refl ([(Fd.s s)])) (qc (Eq.refl es) (qc h7 (qc h8 (qn)))))))))))))))⟩
theorem sp_no (ro st fu st' fu' : Int) (dn dn' v : Bool) (es : List (Rec × Ob))
 (h1 : ((fu == (1 : Int)) = true))
 (h2 : (false = v))
 (h3 : (st = st'))
 (h4 : ((0 : Int) = fu'))
 (h5 : (true = dn')) :
 ∃ ps, runO Try.prog DF [] 100 Try.f33 (dkB ro st fu dn es, [.one (.ref 0 0)]) [.is true] (.v (.one (.bool false v))) (dkB ro st' fu' dn' es) = some ps ∧ AllQ ps := ⟨_, by kernel_rfl, qc h1 (qc h2 (qc (Eq.refl ro) (qc h3 (qc h4 (qc h5 (qc (Eq.refl es) (qn)))))))⟩
theorem sp_dec (ro st fu st' fu' : Int) (dn dn' v : Bool) (es : List (Rec × Ob))
 (h1 : ((fu == (1 : Int)) = false))
 (h2 : ((decide (fu > (1 : Int))) = true))
 (h3 : (InI64 (fu - (1 : Int))))
 (h4 : (InI64 (st + (1 : Int))))
 (h5 : (true = v))
 (h6 : ((st + (1 : Int)) = st'))
 (h7 : ((fu - (1 : Int)) = fu'))
 (h8 : (dn = dn')) :
 ∃ ps, runO Try.prog DF [] 100 Try.f33 (dkB ro st fu dn es, [.one (.ref 0 0)]) [.is false, .is true] (.v (.one (.bool false v))) (dkB ro st' fu' dn' es) = some ps ∧ AllQ ps := ⟨_, by kernel_rfl, qc h1 (qc h2 (qc h3 (qc h4 (qc h5 (qc (Eq.refl ro) (qc h6 (qc h7 (qc h8 (qc (Eq.refl es) (qn))))))))))⟩
theorem sp_yes (ro st fu st' fu' : Int) (dn dn' v : Bool) (es : List (Rec × Ob))
 (h1 : ((fu == (1 : Int)) = false))
 (h2 : ((decide (fu > (1 : Int))) = false))
 (h3 : (InI64 (st + (1 : Int))))
 (h4 : (true = v))
 (h5 : ((st + (1 : Int)) = st'))
 (h6 : (fu = fu'))
 (h7 : (dn = dn')) :
 ∃ ps, runO Try.prog DF [] 100 Try.f33 (dkB ro st fu dn es, [.one (.ref 0 0)]) [.is false, .is false] (.v (.one (.bool false v))) (dkB ro st' fu' dn' es) = some ps ∧ AllQ ps := ⟨_, by kernel_rfl, qc h1 (qc h2 (qc h3 (qc h4 (qc (Eq.refl ro) (qc h5 (qc h6 (qc h7 (qc (Eq.refl es) (qn)))))))))⟩
theorem sq_no (ro st fu st' fu' n : Int) (dn dn' v : Bool) (es : List (Rec × Ob)) (k : Rec) (l : List Int)
 (h1 : ((fu == (1 : Int)) = true))
 (h2 : (false = v))
 (h3 : (st = st'))
 (h4 : ((0 : Int) = fu'))
 (h5 : (true = dn')) :
 ∃ ps, runO Try.prog DF [] 100 Try.f33 (dkO (ro, st, fu, dn, es) k l n, [.one (.ref 0 0)]) [.is true] (.v (.one (.bool false v))) (dkO (ro, st', fu', dn', es) k l n) = some ps ∧ AllQ ps := ⟨_, by kernel_rfl, qc h1 (qc h2 (qc (Eq.refl ro) (qc h3 (qc h4 (qc h5 (qc (Eq.refl k) (qc (Eq.refl es) (qc (Eq.refl n) (qc (Eq.refl l) (qn))))))))))⟩
theorem sq_dec (ro st fu st' fu' n : Int) (dn dn' v : Bool) (es : List (Rec × Ob)) (k : Rec) (l : List Int)
 (h1 : ((fu == (1 : Int)) = false))
 (h2 : ((decide (fu > (1 : Int))) = true))
 (h3 : (InI64 (fu - (1 : Int))))
 (h4 : (InI64 (st + (1 : Int))))
 (h5 : (true = v))
 (h6 : ((st + (1 : Int)) = st'))
 (h7 : ((fu - (1 : Int)) = fu'))
 (h8 : (dn = dn')) :
 ∃ ps, runO Try.prog DF [] 100 Try.f33 (dkO (ro, st, fu, dn, es) k l n, [.one (.ref 0 0)]) [.is false, .is true] (.v (.one (.bool false v))) (dkO (ro, st', fu', dn', es) k l n) = some ps ∧ AllQ ps := ⟨_, by kernel_rfl, qc h1 (qc h2 (qc h3 (qc h4 (qc h5 (qc (Eq.refl ro) (qc h6 (qc h7 (qc h8 (qc (Eq.refl k) (qc (Eq.refl es) (qc (Eq.refl n) (qc (Eq.refl l) (qn)))))))))))))⟩
theorem sq_yes (ro st fu st' fu' n : Int) (dn dn' v : Bool) (es : List (Rec × Ob)) (k : Rec) (l : List Int)
 (h1 : ((fu == (1 : Int)) = false))
 (h2 : ((decide (fu > (1 : Int))) = false))
 (h3 : (InI64 (st + (1 : Int))))
 (h4 : (true = v))
 (h5 : ((st + (1 : Int)) = st'))
 (h6 : (fu = fu'))
 (h7 : (dn = dn')) :
 ∃ ps, runO Try.prog DF [] 100 Try.f33 (dkO (ro, st, fu, dn, es) k l n, [.one (.ref 0 0)]) [.is false, .is false] (.v (.one (.bool false v))) (dkO (ro, st', fu', dn', es) k l n) = some ps ∧ AllQ ps := ⟨_, by kernel_rfl, qc h1 (qc h2 (qc h3 (qc h4 (qc (Eq.refl ro) (qc h5 (qc h6 (qc h7 (qc (Eq.refl k) (qc (Eq.refl es) (qc (Eq.refl n) (qc (Eq.refl l) (qn))))))))))))⟩
def kpB (ro st fu : Int) (dn : Bool) (l : List Int) (es : List (Rec × Ob)) (out : Option (Rec × List (Part DF.τ))) (r : List (BoxSt DF.τ)) (b : BoxSt DF.τ) : List (BoxSt DF.τ) := .fixed 66 [.int .i64 false ro, .mapr 2, .int .i64 false st, .int .i64 false fu, .bool false dn] :: b :: .fam 0 es out :: r
def dynB (l : List Int) : BoxSt DF.τ := .dyn 5 (.ints .u8 l)
theorem kp_new (s : ByteArray) (ro st fu m : Int) (dn : Bool) (es es' : List (Rec × Ob)) (l : List Int)
 (h1 : (KeyT Try.prog (9 : TypeId) false [FK.str]))
 (h2 : ((keyOK [FK.str] [(Fd.s s)]) = true))
 (h3 : (m = (recI [(Fd.w l), (Fd.i m)] (1 : Nat))))
 (h4 : (l = (recW [(Fd.w l), (Fd.i m)] (0 : Nat))))
 (h5 : ((setE (setE es [(Fd.s s)] (Ob.node [(Fd.w l), (Fd.i m)] ([] : List (List (Rec × Ob))))) [(Fd.s s)] (Ob.node [(Fd.w l), (Fd.i m)] ([] : List (List (Rec × Ob))))) = es')) :
 ∃ ps, runO Try.prog DF [] 100 Try.f32 (kpB ro st fu dn l es none [] (dynB l), [.one (.ref 0 0), .one (.str s), .agg [.own 1, .int .i64 false m]]) [] (.tup []) (kpB ro st fu dn l es' none [] .dead) = some ps ∧ AllQ ps := ⟨_, by kernel_rfl, qc h1 (qc h2 (qc h3 (qc h4 (qc (Eq.refl ro) (qc (Eq.refl st) (qc (Eq.refl fu) (qc (Eq.refl dn) (qc h5 (qn)))))))))⟩
theorem kp_same (s : ByteArray) (ro st fu n m : Int) (dn : Bool) (es es' : List (Rec × Ob)) (k : Rec) (l : List Int)
 (h1 : (KeyT Try.prog (9 : TypeId) false [FK.str]))
 (h2 : ((keyOK [FK.str] [(Fd.s s)]) = true))
 (h3 : ([(Fd.s s)] = k))
 (h4 : (m = (recI [(Fd.w l), (Fd.i m)] (1 : Nat))))
 (h5 : (l = (recW [(Fd.w l), (Fd.i m)] (0 : Nat))))
 (h6 : ((setE (setE es [(Fd.s s)] (Ob.node [(Fd.w l), (Fd.i m)] ([] : List (List (Rec × Ob))))) [(Fd.s s)] (Ob.node [(Fd.w l), (Fd.i m)] ([] : List (List (Rec × Ob))))) = es')) :
 ∃ ps, runO Try.prog DF [] 100 Try.f32 (kpB ro st fu dn l es (some (k, [.own 1, .int .i64 false n])) [] (dynB l), [.one (.ref 0 0), .one (.str s), .agg [.own 1, .int .i64 false m]]) [] (.tup []) (kpB ro st fu dn l es' none [] .dead) = some ps ∧ AllQ ps := ⟨_, by kernel_rfl, qc h1 (qc h2 (qc h3 (qc h4 (qc h5 (qc (Eq.refl ro) (qc (Eq.refl st) (qc (Eq.refl fu) (qc (Eq.refl dn) (qc h6 (qn))))))))))⟩
theorem kp_old (s : ByteArray) (ro st fu n m : Int) (dn : Bool) (es es' : List (Rec × Ob)) (k : Rec) (l : List Int)
 (h1 : (KeyT Try.prog (9 : TypeId) false [FK.str]))
 (h2 : ((keyOK [FK.str] [(Fd.s s)]) = true))
 (h3 : ([(Fd.s s)] = k))
 (h4 : (m = (recI [(Fd.w l), (Fd.i m)] (1 : Nat))))
 (h5 : (l = (recW [(Fd.w l), (Fd.i m)] (0 : Nat))))
 (h6 : ((setE (setE es [(Fd.s s)] (Ob.node [(Fd.w l), (Fd.i m)] ([] : List (List (Rec × Ob))))) [(Fd.s s)] (Ob.node [(Fd.w l), (Fd.i m)] ([] : List (List (Rec × Ob))))) = es')) :
 ∃ ps, runO Try.prog DF [] 100 Try.f32 (kpB ro st fu dn l es (some (k, [.own 3, .int .i64 false n])) [.dead] (dynB l), [.one (.ref 0 0), .one (.str s), .agg [.own 1, .int .i64 false m]]) [] (.tup []) (kpB ro st fu dn l es' none [.dead] .dead) = some ps ∧ AllQ ps := ⟨_, by kernel_rfl, qc h1 (qc h2 (qc h3 (qc h4 (qc h5 (qc (Eq.refl ro) (qc (Eq.refl st) (qc (Eq.refl fu) (qc (Eq.refl dn) (qc h6 (qn))))))))))⟩
theorem setE_twice : ∀ (es : List (Rec × Ob)) (k : Rec) (o p : Ob), setE (setE es k o) k p = setE es k p
  | [], k, o, p => by simp [setE]
  | (x, q) :: es, k, o, p => by
    by_cases h : x = k
    · simp [setE, h]
    · simp [setE, h, setE_twice es k o p]
theorem findBad_ok : OpOK Try.prog DF 31 findBadQ := by
  refine opOK_mkG mixed Try.func31 (enters_of Try.func31 (by kernel_rfl) rfl) ?_
  rintro ⟨⟨ro, st, fu, dn, es⟩, s⟩ r' bs' ps h hps
  simp only [Option.some.injEq, Prod.mk.injEq] at h
  obtain ⟨rfl, rfl, rfl⟩ := h
  have h1 : errF dn es s ≠ 0 := hps (errF dn es s ≠ 0) (by simp)
  have h2 : s.size ≤ 9223372036854775807 := hps (s.size ≤ 9223372036854775807) (by simp)
  unfold errF at h1
  by_cases c1 : dn = true
  · exact ⟨_, _, _, gamRt_ok, fi_down s ro st fu _ dn es c1 (by unfold errF; rw [if_pos c1])⟩
  rw [if_neg c1] at h1
  by_cases c2 : rightB s = true
  · rw [if_pos c2] at h1
    by_cases c3 : hasE es [Fd.s s] = true
    · rw [if_pos c3] at h1; exact (h1 rfl).elim
    · exact ⟨_, _, _, gam_look gamRt_ok, fi_gone s ro st fu _ dn es (by simpa using c1) c2 h2 keyT_str rfl (by simpa using c3) (by unfold errF; rw [if_neg c1, if_pos c2, if_neg c3])⟩
  · exact ⟨_, _, _, gamRt_ok, fi_name s ro st fu _ dn es (by simpa using c1) (by simpa using c2) h2 (by unfold errF; rw [if_neg c1, if_neg c2])⟩
theorem errF_ok {dn : Bool} {es : List (Rec × Ob)} {s : ByteArray} (h : errF dn es s = 0) : dn = false ∧ rightB s = true ∧ hasE es [Fd.s s] = true := by
  unfold errF at h
  split at h
  · cases h
  · rename_i h1
    split at h
    · rename_i h2
      split at h
      · rename_i h3
        exact ⟨by simpa using h1, h2, h3⟩
      · cases h
    · cases h
theorem findOk_ok : OpOK Try.prog DF 31 findOkQ := by
  refine opOK_mk gamRt_ok mixed Try.func31 (enters_of Try.func31 (by kernel_rfl) rfl) ?_
  rintro ⟨⟨ro, st, fu, dn, es⟩, s⟩ r' bs' ps h hps
  simp only [Option.some.injEq, Prod.mk.injEq] at h
  obtain ⟨rfl, rfl, rfl⟩ := h
  have h1 : errF dn es s = 0 := hps (errF dn es s = 0) (by simp)
  have h2 : s.size ≤ 9223372036854775807 := hps (s.size ≤ 9223372036854775807) (by simp)
  obtain ⟨c1, c2, c3⟩ := errF_ok h1
  exact ⟨_, _, fi_ok s ro st fu dn es _ _ c1 c2 h2 keyT_str rfl c3 rfl rfl⟩
def stSt (fu st : Int) : Int := if fu = 1 then st else st + 1
def stFu (fu : Int) : Int := if fu = 1 then 0 else if 1 < fu then fu - 1 else fu
def stDn (fu : Int) (dn : Bool) : Bool := if fu = 1 then true else dn
def stV (fu : Int) : Bool := if fu = 1 then false else true
def stepD (d : DkT) : DkT := (d.1, stSt d.2.2.1 d.2.1, stFu d.2.2.1, stDn d.2.2.1 d.2.2.2.1, d.2.2.2.2)
def StepOK (d : DkT) : Prop := (0 ≤ d.2.1 ∧ d.2.1 ≤ 4611686018427387904) ∧ 0 ≤ d.2.2.1 ∧ d.2.2.1 ≤ 9223372036854775807
def spRd (bs : List (BoxSt DF.τ)) : List (A0 DF.τ) → Option DkT
  | [.one (.ref 0 0)] => dkRd bs
  | _ => none
noncomputable def stepQ0 := mkF DF Try.f33.ntmps spRd (fun d => (dkBt d, [.one (.ref 0 0)])) (fun d => some (.v (.one (.bool false (stV d.2.2.1))), dkBt (stepD d), [StepOK d]))
def dkoRd : List (BoxSt DF.τ) → Option (DkT × Rec × List Int × Int)
  | [.fixed t ps, .fam k es (some (key, qs)), .dyn e (.ints .u8 l)] => match ps, qs with
    | [.int .i64 _ ro, .mapr 1, .int .i64 _ st, .int .i64 _ fu, .bool _ dn], [.own 2, .int .i64 _ n] => bif (Nat.beq t 66 && Nat.beq k 0) && Nat.beq e 5 then some ((ro, st, fu, dn, es), key, l, n) else none
    | _, _ => none
  | _ => none
def sqRd (bs : List (BoxSt DF.τ)) : List (A0 DF.τ) → Option (DkT × Rec × List Int × Int)
  | [.one (.ref 0 0)] => dkoRd bs
  | _ => none
noncomputable def stepQ1 := mkF DF Try.f33.ntmps sqRd (fun t => (dkO t.1 t.2.1 t.2.2.1 t.2.2.2, [.one (.ref 0 0)])) (fun t => some (.v (.one (.bool false (stV t.1.2.2.1))), dkO (stepD t.1) t.2.1 t.2.2.1 t.2.2.2, [StepOK t.1]))
noncomputable def stepQ := orF stepQ0 stepQ1
theorem step0_ok : OpOK Try.prog DF 33 stepQ0 := by
  refine opOK_mk gam_nil mixed Try.func33 (enters_of Try.func33 (by kernel_rfl) rfl) ?_
  rintro ⟨ro, st, fu, dn, es⟩ r' bs' ps h hps
  simp only [Option.some.injEq, Prod.mk.injEq] at h
  obtain ⟨rfl, rfl, rfl⟩ := h
  obtain ⟨⟨h1, h2⟩, h3, h4⟩ : StepOK (ro, st, fu, dn, es) := hps (StepOK _) (by simp)
  simp only at h1 h2 h3 h4
  by_cases c1 : fu = 1
  · subst c1
    exact ⟨_, _, sp_no ro st 1 _ _ dn _ _ es (by decide) rfl rfl rfl rfl⟩
  · by_cases c2 : 1 < fu
    · exact ⟨_, _, sp_dec ro st fu (stSt fu st) (stFu fu) dn (stDn fu dn) (stV fu) es (beq_eq_false_iff_ne.2 c1) (decide_eq_true c2) ⟨by omega, by omega⟩ ⟨by omega, by omega⟩ (by simp [stV, c1]) (by simp [stSt, c1]) (by simp [stFu, c1, c2]) (by simp [stDn, c1])⟩
    · exact ⟨_, _, sp_yes ro st fu (stSt fu st) (stFu fu) dn (stDn fu dn) (stV fu) es (beq_eq_false_iff_ne.2 c1) (decide_eq_false c2) ⟨by omega, by omega⟩ (by simp [stV, c1]) (by simp [stSt, c1]) (by simp [stFu, c1, c2]) (by simp [stDn, c1])⟩
theorem step1_ok : OpOK Try.prog DF 33 stepQ1 := by
  refine opOK_mk gam_nil mixed Try.func33 (enters_of Try.func33 (by kernel_rfl) rfl) ?_
  rintro ⟨⟨ro, st, fu, dn, es⟩, k, l, n⟩ r' bs' ps h hps
  simp only [Option.some.injEq, Prod.mk.injEq] at h
  obtain ⟨rfl, rfl, rfl⟩ := h
  obtain ⟨⟨h1, h2⟩, h3, h4⟩ : StepOK (ro, st, fu, dn, es) := hps (StepOK _) (by simp)
  simp only at h1 h2 h3 h4
  by_cases c1 : fu = 1
  · subst c1
    exact ⟨_, _, sq_no ro st 1 _ _ n dn _ _ es k l (by decide) rfl rfl rfl rfl⟩
  · by_cases c2 : 1 < fu
    · exact ⟨_, _, sq_dec ro st fu (stSt fu st) (stFu fu) n dn (stDn fu dn) (stV fu) es k l (beq_eq_false_iff_ne.2 c1) (decide_eq_true c2) ⟨by omega, by omega⟩ ⟨by omega, by omega⟩ (by simp [stV, c1]) (by simp [stSt, c1]) (by simp [stFu, c1, c2]) (by simp [stDn, c1])⟩
    · exact ⟨_, _, sq_yes ro st fu (stSt fu st) (stFu fu) n dn (stDn fu dn) (stV fu) es k l (beq_eq_false_iff_ne.2 c1) (decide_eq_false c2) ⟨by omega, by omega⟩ (by simp [stV, c1]) (by simp [stSt, c1]) (by simp [stFu, c1, c2]) (by simp [stDn, c1])⟩
theorem step_ok : OpOK Try.prog DF 33 stepQ := opOK_or step0_ok step1_ok
structure KpT where
  d : DkT
  s : ByteArray
  l : List Int
  m : Int
  out : Option (Rec × Bool × Int)
def kpOut : Option (Rec × Bool × Int) → Option (Rec × List (Part DF.τ))
  | none => none
  | some (k, true, n) => some (k, [.own 1, .int .i64 false n])
  | some (k, false, n) => some (k, [.own 3, .int .i64 false n])
def kpTl : Option (Rec × Bool × Int) → List (BoxSt DF.τ)
  | some (_, false, _) => [.dead]
  | _ => []
def kpOutRd : Option (Rec × List (Part DF.τ)) → List (BoxSt DF.τ) → Option (Option (Rec × Bool × Int))
  | none, [] => some none
  | some (k, [.own 1, .int .i64 _ n]), [] => some (some (k, true, n))
  | some (k, [.own 3, .int .i64 _ n]), [_] => some (some (k, false, n))
  | _, _ => none
def kpRd (bs : List (BoxSt DF.τ)) (xs : List (A0 DF.τ)) : Option KpT :=
  match bs, xs with
  | .fixed t ps :: .dyn e (.ints .u8 l) :: .fam k es out :: r, [.one (.ref 0 0), .one (.str s), .agg qs] => match ps, qs with
    | [.int .i64 _ ro, .mapr 2, .int .i64 _ st, .int .i64 _ fu, .bool _ dn], [.own 1, .int .i64 _ m] => bif (Nat.beq t 66 && Nat.beq k 0) && Nat.beq e 5 then
        match kpOutRd out r with
        | some o => some ⟨(ro, st, fu, dn, es), s, l, m, o⟩
        | none => none
      else none
    | _, _ => none
  | _, _ => none
def kpPre (t : KpT) : List (BoxSt DF.τ) × List (A0 DF.τ) := (kpB t.d.1 t.d.2.1 t.d.2.2.1 t.d.2.2.2.1 t.l t.d.2.2.2.2 (kpOut t.out) (kpTl t.out) (dynB t.l), [.one (.ref 0 0), .one (.str t.s), .agg [.own 1, .int .i64 false t.m]])
def kpDuty (s : ByteArray) : Option (Rec × Bool × Int) → Prop
  | none => True
  | some (k, _, _) => [Fd.s s] = k
noncomputable def keepQ := mkF DF Try.f32.ntmps kpRd kpPre (fun t => some (.tup [], kpB t.d.1 t.d.2.1 t.d.2.2.1 t.d.2.2.2.1 t.l (setE t.d.2.2.2.2 [Fd.s t.s] (fileOb t.l t.m)) none (kpTl t.out) .dead, [kpDuty t.s t.out]))
theorem keep_ok : OpOK Try.prog DF 32 keepQ := by
  refine opOK_mk gam_nil mixed Try.func32 (enters_of Try.func32 (by kernel_rfl) rfl) ?_
  rintro ⟨⟨ro, st, fu, dn, es⟩, s, l, m, o⟩ r' bs' ps h hps
  simp only [Option.some.injEq, Prod.mk.injEq] at h
  obtain ⟨rfl, rfl, rfl⟩ := h
  have hd : kpDuty s o := hps (kpDuty s o) (by simp)
  match o, hd with
  | none, _ => exact ⟨_, _, kp_new s ro st fu m dn es _ l keyT_str rfl rfl rfl (setE_twice ..)⟩
  | some (k, true, n), hd => exact ⟨_, _, kp_same s ro st fu n m dn es _ k l keyT_str rfl hd rfl rfl (setE_twice ..)⟩
  | some (k, false, n), hd => exact ⟨_, _, kp_old s ro st fu n m dn es _ k l keyT_str rfl hd rfl rfl (setE_twice ..)⟩
end Go.Num
namespace Go.Num
open Go.Abs Go.Proofs Go.Shelf Go.RowKit
def freeR (bs : List (BoxSt DF.τ)) (xs : List (A0 DF.τ)) : Option (AV DF.τ × List (BoxSt DF.τ) × List Prop) :=
  match frRd bs xs with
  | some (es, room, o) => some (.v (.one (.int .i64 false (room - safeSum o es))), [], [FreeOK o es room])
  | none => none
theorem freeR_ok : OpOK Try.prog DF 17 (withNew freeR) := by
  have : withNew freeR = freeQ := by
    funext bs xs
    unfold withNew freeR freeQ
    cases frRd bs xs with
    | none => rfl
    | some x =>
      obtain ⟨es, room, o⟩ := x
      simp
  rw [this]
  exact free_ok
noncomputable def gA1 : Gam DF := [(31, .op [true, false] findBadQ), (32, .op [true, false, true] keepQ), (33, .op [true] stepQ), (17, .rd [true] freeR), (36, .fn rightF)]
noncomputable def gA0 : Gam DF := [(31, .op [true, false] findOkQ), (32, .op [true, false, true] keepQ), (33, .op [true] stepQ), (17, .rd [true] freeR), (36, .fn rightF)]
theorem gA1_ok : GamOK Try.prog DF gA1 := gam_op findBad_ok (gam_op keep_ok (gam_op step_ok (gam_rd freeR_ok (gam_cons right_ok gam_nil))))
theorem gA0_ok : GamOK Try.prog DF gA0 := gam_op findOk_ok (gam_op keep_ok (gam_op step_ok (gam_rd freeR_ok (gam_cons right_ok gam_nil))))
def eV (e : Int) : AV DF.τ := .v (.one (.int .i64 false e))
theorem ap_bad (s : ByteArray) (b : List Int) (ro st fu e : Int) (dn : Bool) (es : List (Rec × Ob))
 (h1 : ((errF dn es s) ≠ (0 : Int)))
 (h2 : ((ByteArray.size s) ≤ (9223372036854775807 : Nat)))
 (h3 : (((errF dn es s) != (0 : Int)) = true))
 (h4 : (((errF dn es s) != (41 : Int)) = true))
 (h5 : ((errF dn es s) = e)) :
 ∃ ps, runO Try.prog DF gA1 100 Try.f10 (dkB ro st fu dn es, [.one (.ref 0 0), .one (.str s), .one (.words .u8 b)]) [.is true, .is true] (eV e) (dkB ro st fu dn es) = some ps ∧ AllQ ps := ⟨_, by kernel_rfl, qc (Eq.refl s) (qc (Eq.refl ro) (qc (Eq.refl st) (qc (Eq.refl fu) (qc (Eq.refl dn) (qc (Eq.refl es) (qc h1 (qc h2 (qc h3 (qc h4 (qc h5 (qc (Eq.refl ro) (qc (Eq.refl st) (qc (Eq.refl fu) (qc (Eq.refl dn) (qc (Eq.refl es) (qn))))))))))))))))⟩
theorem ap_many (s : ByteArray) (b : List Int) (ro st fu e : Int) (dn : Bool) (es : List (Rec × Ob))
 (h1 : ((errF dn es s) ≠ (0 : Int)))
 (h2 : ((ByteArray.size s) ≤ (9223372036854775807 : Nat)))
 (h3 : (((errF dn es s) != (0 : Int)) = true))
 (h4 : (((errF dn es s) != (41 : Int)) = false))
 (h5 : (((errF dn es s) == (41 : Int)) = true))
 (h6 : ((decide ((((List.length es) : Nat) : Int) ≥ (32 : Int))) = true))
 (h7 : ((43 : Int) = e)) :
 ∃ ps, runO Try.prog DF gA1 100 Try.f10 (dkB ro st fu dn es, [.one (.ref 0 0), .one (.str s), .one (.words .u8 b)]) [.is true, .is false, .is true, .is true] (eV e) (dkB ro st fu dn es) = some ps ∧ AllQ ps := ⟨_, by kernel_rfl, qc (Eq.refl s) (qc (Eq.refl ro) (qc (Eq.refl st) (qc (Eq.refl fu) (qc (Eq.refl dn) (qc (Eq.refl es) (qc h1 (qc h2 (qc h3 (qc h4 (qc h5 (qc h6 (qc h7 (qc (Eq.refl ro) (qc (Eq.refl st) (qc (Eq.refl fu) (qc (Eq.refl dn) (qc (Eq.refl es) (qn))))))))))))))))))⟩
theorem ap_big1 (s : ByteArray) (b : List Int) (ro st fu e : Int) (dn : Bool) (es : List (Rec × Ob))
 (h1 : ((errF dn es s) ≠ (0 : Int)))
 (h2 : ((ByteArray.size s) ≤ (9223372036854775807 : Nat)))
 (h3 : (((errF dn es s) != (0 : Int)) = true))
 (h4 : (((errF dn es s) != (41 : Int)) = false))
 (h5 : (((errF dn es s) == (41 : Int)) = true))
 (h6 : ((decide ((((List.length es) : Nat) : Int) ≥ (32 : Int))) = false))
 (h7 : ((decide ((((List.length b) : Nat) : Int) > (Go.IntKind.wrap Go.IntKind.i64 ((4194304 : Int) - (0 : Int))))) = true))
 (h8 : ((18 : Int) = e)) :
 ∃ ps, runO Try.prog DF gA1 100 Try.f10 (dkB ro st fu dn es, [.one (.ref 0 0), .one (.str s), .one (.words .u8 b)]) [.is true, .is false, .is true, .is false, .is true] (eV e) (dkB ro st fu dn es) = some ps ∧ AllQ ps := ⟨_, by kernel_rfl, qc (Eq.refl s) (qc (Eq.refl ro) (qc (Eq.refl st) (qc (Eq.refl fu) (qc (Eq.refl dn) (qc (Eq.refl es) (qc h1 (qc h2 (qc h3 (qc h4 (qc h5 (qc h6 (qc h7 (qc h8 (qc (Eq.refl ro) (qc (Eq.refl st) (qc (Eq.refl fu) (qc (Eq.refl dn) (qc (Eq.refl es) (qn)))))))))))))))))))⟩
theorem ap_new1 (s : ByteArray) (b : List Int) (ro st fu e st' fu' : Int) (dn dn' : Bool) (es es' : List (Rec × Ob))
 (h1 : ((errF dn es s) ≠ (0 : Int)))
 (h2 : ((ByteArray.size s) ≤ (9223372036854775807 : Nat)))
 (h3 : (((errF dn es s) != (0 : Int)) = true))
 (h4 : (((errF dn es s) != (41 : Int)) = false))
 (h5 : (((errF dn es s) == (41 : Int)) = true))
 (h6 : ((decide ((((List.length es) : Nat) : Int) ≥ (32 : Int))) = false))
 (h7 : ((decide ((((List.length b) : Nat) : Int) > (Go.IntKind.wrap Go.IntKind.i64 ((4194304 : Int) - (0 : Int))))) = false))
 (h8 : ((List.length b) ≤ (9223372036854775807 : Nat)))
 (h9 : (((List.length b) * (1 : Nat)) ≤ (140737488355328 : Nat)))
 (h10 : ((stV fu) = true))
 (h11 : (StepOK (ro, (st, (fu, (dn, (setE es [(Fd.s s)] (Ob.node [(Fd.w b), (Fd.i (0 : Int))] ([] : List (List (Rec × Ob)))))))))))
 (h12 : ((0 : Int) = e))
 (h13 : ((stSt fu st) = st'))
 (h14 : ((stFu fu) = fu'))
 (h15 : ((stDn fu dn) = dn'))
 (h16 : ((setE es [(Fd.s s)] (Ob.node [(Fd.w b), (Fd.i (0 : Int))] ([] : List (List (Rec × Ob))))) = es')) :
 ∃ ps, runO Try.prog DF gA1 100 Try.f10 (dkB ro st fu dn es, [.one (.ref 0 0), .one (.str s), .one (.words .u8 b)]) [.is true, .is false, .is true, .is false, .is false, .is true] (eV e) (dkB ro st' fu' dn' es') = some ps ∧ AllQ ps := ⟨_, by kernel_rfl, qc (Eq.refl s) (qc (Eq.refl ro) (qc (Eq.refl st) (qc (Eq.refl fu) (qc (Eq.refl dn) (qc (Eq.refl es) (qc h1 (qc h2 (qc h3 (qc h4 (qc h5 (qc h6 (qc h7 (qc h8 (qc h9 (qc (Eq.refl s) (qc (Eq.refl ((0 : Int))) (qc (Eq.refl ro) (qc (Eq.refl st) (qc (Eq.refl fu) (qc (Eq.refl dn) (qc (Eq.refl b) (qc (Eq.refl es) (qc (show True from by decide) (qc h10 (qc (Eq.refl ro) (qc (Eq.refl st) (qc (Eq.refl fu) (qc (Eq.refl dn) (qc (Eq.refl ((setE es [(Fd.s s)] (Ob.node [(Fd.w b), (Fd.i (0 : Int))] ([] : List (List (Rec × Ob))))))) (qc h11 (qc h12 (qc (Eq.refl ro) (qc h13 (qc h14 (qc h15 (qc h16 (qn)))))))))))))))))))))))))))))))))))))⟩
theorem ap_new0 (s : ByteArray) (b : List Int) (ro st fu e st' fu' : Int) (dn dn' : Bool) (es es' : List (Rec × Ob))
 (h1 : ((errF dn es s) ≠ (0 : Int)))
 (h2 : ((ByteArray.size s) ≤ (9223372036854775807 : Nat)))
 (h3 : (((errF dn es s) != (0 : Int)) = true))
 (h4 : (((errF dn es s) != (41 : Int)) = false))
 (h5 : (((errF dn es s) == (41 : Int)) = true))
 (h6 : ((decide ((((List.length es) : Nat) : Int) ≥ (32 : Int))) = false))
 (h7 : ((decide ((((List.length b) : Nat) : Int) > (Go.IntKind.wrap Go.IntKind.i64 ((4194304 : Int) - (0 : Int))))) = false))
 (h8 : ((List.length b) ≤ (9223372036854775807 : Nat)))
 (h9 : (((List.length b) * (1 : Nat)) ≤ (140737488355328 : Nat)))
 (h10 : ((stV fu) = false))
 (h11 : (StepOK (ro, (st, (fu, (dn, (setE es [(Fd.s s)] (Ob.node [(Fd.w b), (Fd.i (0 : Int))] ([] : List (List (Rec × Ob)))))))))))
 (h12 : ((2 : Int) = e))
 (h13 : ((stSt fu st) = st'))
 (h14 : ((stFu fu) = fu'))
 (h15 : ((stDn fu dn) = dn'))
 (h16 : ((setE es [(Fd.s s)] (Ob.node [(Fd.w b), (Fd.i (0 : Int))] ([] : List (List (Rec × Ob))))) = es')) :
 ∃ ps, runO Try.prog DF gA1 100 Try.f10 (dkB ro st fu dn es, [.one (.ref 0 0), .one (.str s), .one (.words .u8 b)]) [.is true, .is false, .is true, .is false, .is false, .is false] (eV e) (dkB ro st' fu' dn' es') = some ps ∧ AllQ ps := ⟨_, by kernel_rfl, qc (Eq.refl s) (qc (Eq.refl ro) (qc (Eq.refl st) (qc (Eq.refl fu) (qc (Eq.refl dn) (qc (Eq.refl es) (qc h1 (qc h2 (qc h3 (qc h4 (qc h5 (qc h6 (qc h7 (qc h8 (qc h9 (qc (Eq.refl s) (qc (Eq.refl ((0 : Int))) (qc (Eq.refl ro) (qc (Eq.refl st) (qc (Eq.refl fu) (qc (Eq.refl dn) (qc (Eq.refl b) (qc (Eq.refl es) (qc (show True from by decide) (qc h10 (qc (Eq.refl ro) (qc (Eq.refl st) (qc (Eq.refl fu) (qc (Eq.refl dn) (qc (Eq.refl ((setE es [(Fd.s s)] (Ob.node [(Fd.w b), (Fd.i (0 : Int))] ([] : List (List (Rec × Ob))))))) (qc h11 (qc h12 (qc (Eq.refl ro) (qc h13 (qc h14 (qc h15 (qc h16 (qn)))))))))))))))))))))))))))))))))))))⟩
theorem ap_big2 (s : ByteArray) (b : List Int) (ro st fu e : Int) (dn : Bool) (es es' : List (Rec × Ob))
 (h1 : ((errF dn es s) = (0 : Int)))
 (h2 : ((ByteArray.size s) ≤ (9223372036854775807 : Nat)))
 (h3 : (InI64 ((4194304 : Int) - (((List.length (obD (obE es [(Fd.s s)]))) : Nat) : Int))))
 (h4 : ((decide ((((List.length b) : Nat) : Int) > ((4194304 : Int) - (((List.length (obD (obE es [(Fd.s s)]))) : Nat) : Int)))) = true))
 (h5 : ((obS (obE es [(Fd.s s)])) = (obS (Ob.node [(Fd.w (obD (obE es [(Fd.s s)]))), (Fd.i (obS (obE es [(Fd.s s)])))] ([] : List (List (Rec × Ob)))))))
 (h6 : ((obD (obE es [(Fd.s s)])) = (obD (Ob.node [(Fd.w (obD (obE es [(Fd.s s)]))), (Fd.i (obS (obE es [(Fd.s s)])))] ([] : List (List (Rec × Ob)))))))
 (h7 : ((18 : Int) = e))
 (h8 : ((setE es [(Fd.s s)] (Ob.node [(Fd.w (obD (obE es [(Fd.s s)]))), (Fd.i (obS (obE es [(Fd.s s)])))] ([] : List (List (Rec × Ob))))) = es')) :
 ∃ ps, runO Try.prog DF gA0 100 Try.f10 (dkB ro st fu dn es, [.one (.ref 0 0), .one (.str s), .one (.words .u8 b)]) [.is true] (eV e) (dkB ro st fu dn es') = some ps ∧ AllQ ps := ⟨_, by kernel_rfl, qc (Eq.refl s) (qc (Eq.refl ro) (qc (Eq.refl st) (qc (Eq.refl fu) (qc (Eq.refl dn) (qc (Eq.refl es) (qc h1 (qc h2 (qc h3 (qc h4 (qc h5 (qc h6 (qc h7 (qc (Eq.refl ro) (qc (Eq.refl st) (qc (Eq.refl fu) (qc (Eq.refl dn) (qc h8 (qn))))))))))))))))))⟩
theorem ap_old1 (s : ByteArray) (b : List Int) (ro st fu e st' fu' : Int) (dn dn' : Bool) (es es' : List (Rec × Ob))
 (h1 : ((errF dn es s) = (0 : Int)))
 (h2 : ((ByteArray.size s) ≤ (9223372036854775807 : Nat)))
 (h3 : (InI64 ((4194304 : Int) - (((List.length (obD (obE es [(Fd.s s)]))) : Nat) : Int))))
 (h4 : ((decide ((((List.length b) : Nat) : Int) > ((4194304 : Int) - (((List.length (obD (obE es [(Fd.s s)]))) : Nat) : Int)))) = false))
 (h5 : (((List.length (obD (obE es [(Fd.s s)]))) + (List.length b)) ≤ (9223372036854775807 : Nat)))
 (h6 : ((((List.length (obD (obE es [(Fd.s s)]))) + (List.length b)) * (1 : Nat)) ≤ (140737488355328 : Nat)))
 (h7 : ((stV fu) = true))
 (h8 : (StepOK (ro, (st, (fu, (dn, (setE es [(Fd.s s)] (Ob.node [(Fd.w ((obD (obE es [(Fd.s s)])) ++ b)), (Fd.i (obS (obE es [(Fd.s s)])))] ([] : List (List (Rec × Ob)))))))))))
 (h9 : ((0 : Int) = e))
 (h10 : ((stSt fu st) = st'))
 (h11 : ((stFu fu) = fu'))
 (h12 : ((stDn fu dn) = dn'))
 (h13 : ((setE es [(Fd.s s)] (Ob.node [(Fd.w ((obD (obE es [(Fd.s s)])) ++ b)), (Fd.i (obS (obE es [(Fd.s s)])))] ([] : List (List (Rec × Ob))))) = es')) :
 ∃ ps, runO Try.prog DF gA0 100 Try.f10 (dkB ro st fu dn es, [.one (.ref 0 0), .one (.str s), .one (.words .u8 b)]) [.is false, .is true] (eV e) (dkB ro st' fu' dn' es') = some ps ∧ AllQ ps := ⟨_, by kernel_rfl, qc (Eq.refl s) (qc (Eq.refl ro) (qc (Eq.refl st) (qc (Eq.refl fu) (qc (Eq.refl dn) (qc (Eq.refl es) (qc h1 (qc h2 (qc h3 (qc h4 (qc h5 (qc h6 (qc (Eq.refl s) (qc (Eq.refl ((obS (obE es [(Fd.s s)])))) (qc (Eq.refl ro) (qc (Eq.refl st) (qc (Eq.refl fu) (qc (Eq.refl dn) (qc (Eq.refl (((obD (obE es [(Fd.s s)])) ++ b))) (qc (Eq.refl ([(Fd.s s)])) (qc (Eq.refl es) (qc (Eq.refl ((obS (obE es [(Fd.s s)])))) (qc (Eq.refl ([(Fd.s s)])) (qc h7 (qc (Eq.refl ro) (qc (Eq.refl st) (qc (Eq.refl fu) (qc (Eq.refl dn) (qc (Eq.refl ((setE es [(Fd.s s)] (Ob.node [(Fd.w ((obD (obE es [(Fd.s s)])) ++ b)), (Fd.i (obS (obE es [(Fd.s s)])))] ([] : List (List (Rec × Ob))))))) (qc h8 (qc h9 (qc (Eq.refl ro) (qc h10 (qc h11 (qc h12 (qc h13 (qn))))))))))))))))))))))))))))))))))))⟩
theorem ap_old0 (s : ByteArray) (b : List Int) (ro st fu e st' fu' : Int) (dn dn' : Bool) (es es' : List (Rec × Ob))
 (h1 : ((errF dn es s) = (0 : Int)))
 (h2 : ((ByteArray.size s) ≤ (9223372036854775807 : Nat)))
 (h3 : (InI64 ((4194304 : Int) - (((List.length (obD (obE es [(Fd.s s)]))) : Nat) : Int))))
 (h4 : ((decide ((((List.length b) : Nat) : Int) > ((4194304 : Int) - (((List.length (obD (obE es [(Fd.s s)]))) : Nat) : Int)))) = false))
 (h5 : (((List.length (obD (obE es [(Fd.s s)]))) + (List.length b)) ≤ (9223372036854775807 : Nat)))
 (h6 : ((((List.length (obD (obE es [(Fd.s s)]))) + (List.length b)) * (1 : Nat)) ≤ (140737488355328 : Nat)))
 (h7 : ((stV fu) = false))
 (h8 : (StepOK (ro, (st, (fu, (dn, (setE es [(Fd.s s)] (Ob.node [(Fd.w ((obD (obE es [(Fd.s s)])) ++ b)), (Fd.i (obS (obE es [(Fd.s s)])))] ([] : List (List (Rec × Ob)))))))))))
 (h9 : ((2 : Int) = e))
 (h10 : ((stSt fu st) = st'))
 (h11 : ((stFu fu) = fu'))
 (h12 : ((stDn fu dn) = dn'))
 (h13 : ((setE es [(Fd.s s)] (Ob.node [(Fd.w ((obD (obE es [(Fd.s s)])) ++ b)), (Fd.i (obS (obE es [(Fd.s s)])))] ([] : List (List (Rec × Ob))))) = es')) :
 ∃ ps, runO Try.prog DF gA0 100 Try.f10 (dkB ro st fu dn es, [.one (.ref 0 0), .one (.str s), .one (.words .u8 b)]) [.is false, .is false] (eV e) (dkB ro st' fu' dn' es') = some ps ∧ AllQ ps := ⟨_, by kernel_rfl, qc (Eq.refl s) (qc (Eq.refl ro) (qc (Eq.refl st) (qc (Eq.refl fu) (qc (Eq.refl dn) (qc (Eq.refl es) (qc h1 (qc h2 (qc h3 (qc h4 (qc h5 (qc h6 (qc (Eq.refl s) (qc (Eq.refl ((obS (obE es [(Fd.s s)])))) (qc (Eq.refl ro) (qc (Eq.refl st) (qc (Eq.refl fu) (qc (Eq.refl dn) (qc (Eq.refl (((obD (obE es [(Fd.s s)])) ++ b))) (qc (Eq.refl ([(Fd.s s)])) (qc (Eq.refl es) (qc (Eq.refl ((obS (obE es [(Fd.s s)])))) (qc (Eq.refl ([(Fd.s s)])) (qc h7 (qc (Eq.refl ro) (qc (Eq.refl st) (qc (Eq.refl fu) (qc (Eq.refl dn) (qc (Eq.refl ((setE es [(Fd.s s)] (Ob.node [(Fd.w ((obD (obE es [(Fd.s s)])) ++ b)), (Fd.i (obS (obE es [(Fd.s s)])))] ([] : List (List (Rec × Ob))))))) (qc h8 (qc h9 (qc (Eq.refl ro) (qc h10 (qc h11 (qc h12 (qc h13 (qn))))))))))))))))))))))))))))))))))))⟩
theorem sy_bad (s : ByteArray) (ro st fu e : Int) (dn : Bool) (es : List (Rec × Ob))
 (h1 : ((errF dn es s) ≠ (0 : Int)))
 (h2 : ((ByteArray.size s) ≤ (9223372036854775807 : Nat)))
 (h3 : (((errF dn es s) != (0 : Int)) = true))
 (h4 : ((errF dn es s) = e)) :
 ∃ ps, runO Try.prog DF gA1 100 Try.f12 (dkB ro st fu dn es, [.one (.ref 0 0), .one (.str s)]) [.is true] (eV e) (dkB ro st fu dn es) = some ps ∧ AllQ ps := ⟨_, by kernel_rfl, qc (Eq.refl s) (qc (Eq.refl ro) (qc (Eq.refl st) (qc (Eq.refl fu) (qc (Eq.refl dn) (qc (Eq.refl es) (qc h1 (qc h2 (qc h3 (qc h4 (qc (Eq.refl ro) (qc (Eq.refl st) (qc (Eq.refl fu) (qc (Eq.refl dn) (qc (Eq.refl es) (qn)))))))))))))))⟩
theorem sy_full (s : ByteArray) (ro st fu e : Int) (dn : Bool) (es es' : List (Rec × Ob))
 (h1 : ((errF dn es s) = (0 : Int)))
 (h2 : ((ByteArray.size s) ≤ (9223372036854775807 : Nat)))
 (h3 : (InI64 ((((List.length (obD (obE es [(Fd.s s)]))) : Nat) : Int) - (obS (obE es [(Fd.s s)])))))
 (h4 : (FreeOK (Option.some ([(Fd.s s)], (obS (obE es [(Fd.s s)])))) es ro))
 (h5 : ((decide (((((List.length (obD (obE es [(Fd.s s)]))) : Nat) : Int) - (obS (obE es [(Fd.s s)]))) > (ro - (safeSum (Option.some ([(Fd.s s)], (obS (obE es [(Fd.s s)])))) es)))) = true))
 (h6 : ((obS (obE es [(Fd.s s)])) = (obS (Ob.node [(Fd.w (obD (obE es [(Fd.s s)]))), (Fd.i (obS (obE es [(Fd.s s)])))] ([] : List (List (Rec × Ob)))))))
 (h7 : ((obD (obE es [(Fd.s s)])) = (obD (Ob.node [(Fd.w (obD (obE es [(Fd.s s)]))), (Fd.i (obS (obE es [(Fd.s s)])))] ([] : List (List (Rec × Ob)))))))
 (h8 : ((42 : Int) = e))
 (h9 : ((setE es [(Fd.s s)] (Ob.node [(Fd.w (obD (obE es [(Fd.s s)]))), (Fd.i (obS (obE es [(Fd.s s)])))] ([] : List (List (Rec × Ob))))) = es')) :
 ∃ ps, runO Try.prog DF gA0 100 Try.f12 (dkB ro st fu dn es, [.one (.ref 0 0), .one (.str s)]) [.is true] (eV e) (dkB ro st fu dn es') = some ps ∧ AllQ ps := ⟨_, by kernel_rfl, qc (Eq.refl s) (qc (Eq.refl ro) (qc (Eq.refl st) (qc (Eq.refl fu) (qc (Eq.refl dn) (qc (Eq.refl es) (qc h1 (qc h2 (qc h3 (qc h4 (qc h5 (qc h6 (qc h7 (qc h8 (qc (Eq.refl ro) (qc (Eq.refl st) (qc (Eq.refl fu) (qc (Eq.refl dn) (qc h9 (qn)))))))))))))))))))⟩
theorem sy_down (s : ByteArray) (ro st fu e st' fu' : Int) (dn dn' : Bool) (es es' : List (Rec × Ob))
 (h1 : ((errF dn es s) = (0 : Int)))
 (h2 : ((ByteArray.size s) ≤ (9223372036854775807 : Nat)))
 (h3 : (InI64 ((((List.length (obD (obE es [(Fd.s s)]))) : Nat) : Int) - (obS (obE es [(Fd.s s)])))))
 (h4 : (FreeOK (Option.some ([(Fd.s s)], (obS (obE es [(Fd.s s)])))) es ro))
 (h5 : ((decide (((((List.length (obD (obE es [(Fd.s s)]))) : Nat) : Int) - (obS (obE es [(Fd.s s)]))) > (ro - (safeSum (Option.some ([(Fd.s s)], (obS (obE es [(Fd.s s)])))) es)))) = false))
 (h6 : ((stV fu) = true))
 (h7 : (StepOK (ro, (st, (fu, (dn, es))))))
 (h8 : ((0 : Int) = e))
 (h9 : ((stSt fu st) = st'))
 (h10 : ((stFu fu) = fu'))
 (h11 : ((stDn fu dn) = dn'))
 (h12 : ((setE es [(Fd.s s)] (Ob.node [(Fd.w (obD (obE es [(Fd.s s)]))), (Fd.i (((List.length (obD (obE es [(Fd.s s)]))) : Nat) : Int))] ([] : List (List (Rec × Ob))))) = es')) :
 ∃ ps, runO Try.prog DF gA0 100 Try.f12 (dkB ro st fu dn es, [.one (.ref 0 0), .one (.str s)]) [.is false, .is true] (eV e) (dkB ro st' fu' dn' es') = some ps ∧ AllQ ps := ⟨_, by kernel_rfl, qc (Eq.refl s) (qc (Eq.refl ro) (qc (Eq.refl st) (qc (Eq.refl fu) (qc (Eq.refl dn) (qc (Eq.refl es) (qc h1 (qc h2 (qc h3 (qc h4 (qc h5 (qc h6 (qc (Eq.refl ro) (qc (Eq.refl st) (qc (Eq.refl fu) (qc (Eq.refl dn) (qc (Eq.refl ([(Fd.s s)])) (qc (Eq.refl es) (qc (Eq.refl ((obS (obE es [(Fd.s s)])))) (qc (Eq.refl ((obD (obE es [(Fd.s s)])))) (qc h7 (qc (Eq.refl s) (qc (Eq.refl ((((List.length (obD (obE es [(Fd.s s)]))) : Nat) : Int))) (qc (Eq.refl ro) (qc (Eq.refl ((stSt fu st))) (qc (Eq.refl ((stFu fu))) (qc (Eq.refl ((stDn fu dn))) (qc (Eq.refl ((obD (obE es [(Fd.s s)])))) (qc (Eq.refl ([(Fd.s s)])) (qc (Eq.refl es) (qc (Eq.refl ((obS (obE es [(Fd.s s)])))) (qc (Eq.refl ([(Fd.s s)])) (qc h8 (qc (Eq.refl ro) (qc h9 (qc h10 (qc h11 (qc h12 (qn))))))))))))))))))))))))))))))))))))))⟩
theorem sy_ok (s : ByteArray) (ro st fu e st' fu' : Int) (dn dn' : Bool) (es es' : List (Rec × Ob))
 (h1 : ((errF dn es s) = (0 : Int)))
 (h2 : ((ByteArray.size s) ≤ (9223372036854775807 : Nat)))
 (h3 : (InI64 ((((List.length (obD (obE es [(Fd.s s)]))) : Nat) : Int) - (obS (obE es [(Fd.s s)])))))
 (h4 : (FreeOK (Option.some ([(Fd.s s)], (obS (obE es [(Fd.s s)])))) es ro))
 (h5 : ((decide (((((List.length (obD (obE es [(Fd.s s)]))) : Nat) : Int) - (obS (obE es [(Fd.s s)]))) > (ro - (safeSum (Option.some ([(Fd.s s)], (obS (obE es [(Fd.s s)])))) es)))) = false))
 (h6 : ((stV fu) = false))
 (h7 : (StepOK (ro, (st, (fu, (dn, es))))))
 (h8 : ((obS (obE es [(Fd.s s)])) = (obS (Ob.node [(Fd.w (obD (obE es [(Fd.s s)]))), (Fd.i (obS (obE es [(Fd.s s)])))] ([] : List (List (Rec × Ob)))))))
 (h9 : ((obD (obE es [(Fd.s s)])) = (obD (Ob.node [(Fd.w (obD (obE es [(Fd.s s)]))), (Fd.i (obS (obE es [(Fd.s s)])))] ([] : List (List (Rec × Ob)))))))
 (h10 : ((2 : Int) = e))
 (h11 : ((stSt fu st) = st'))
 (h12 : ((stFu fu) = fu'))
 (h13 : ((stDn fu dn) = dn'))
 (h14 : ((setE es [(Fd.s s)] (Ob.node [(Fd.w (obD (obE es [(Fd.s s)]))), (Fd.i (obS (obE es [(Fd.s s)])))] ([] : List (List (Rec × Ob))))) = es')) :
 ∃ ps, runO Try.prog DF gA0 100 Try.f12 (dkB ro st fu dn es, [.one (.ref 0 0), .one (.str s)]) [.is false, .is false] (eV e) (dkB ro st' fu' dn' es') = some ps ∧ AllQ ps := ⟨_, by kernel_rfl, qc (Eq.refl s) (qc (Eq.refl ro) (qc (Eq.refl st) (qc (Eq.refl fu) (qc (Eq.refl dn) (qc (Eq.refl es) (qc h1 (qc h2 (qc h3 (qc h4 (qc h5 (qc h6 (qc (Eq.refl ro) (qc (Eq.refl st) (qc (Eq.refl fu) (qc (Eq.refl dn) (qc (Eq.refl ([(Fd.s s)])) (qc (Eq.refl es) (qc (Eq.refl ((obS (obE es [(Fd.s s)])))) (qc (Eq.refl ((obD (obE es [(Fd.s s)])))) (qc h7 (qc h8 (qc h9 (qc h10 (qc (Eq.refl ro) (qc h11 (qc h12 (qc h13 (qc h14 (qn)))))))))))))))))))))))))))))⟩
theorem cu_bad (s : ByteArray) (n ro st fu e : Int) (dn : Bool) (es : List (Rec × Ob))
 (h1 : ((errF dn es s) ≠ (0 : Int)))
 (h2 : ((ByteArray.size s) ≤ (9223372036854775807 : Nat)))
 (h3 : (((errF dn es s) != (0 : Int)) = true))
 (h4 : ((errF dn es s) = e)) :
 ∃ ps, runO Try.prog DF gA1 100 Try.f21 (dkB ro st fu dn es, [.one (.ref 0 0), .one (.str s), .one (.int .i64 false n)]) [.is true] (eV e) (dkB ro st fu dn es) = some ps ∧ AllQ ps := ⟨_, by kernel_rfl, qc (Eq.refl s) (qc (Eq.refl ro) (qc (Eq.refl st) (qc (Eq.refl fu) (qc (Eq.refl dn) (qc (Eq.refl es) (qc h1 (qc h2 (qc h3 (qc h4 (qc (Eq.refl ro) (qc (Eq.refl st) (qc (Eq.refl fu) (qc (Eq.refl dn) (qc (Eq.refl es) (qn)))))))))))))))⟩
theorem cu_neg (s : ByteArray) (n ro st fu e : Int) (dn : Bool) (es es' : List (Rec × Ob))
 (h1 : ((errF dn es s) = (0 : Int)))
 (h2 : ((ByteArray.size s) ≤ (9223372036854775807 : Nat)))
 (h3 : ((decide (n < (0 : Int))) = true))
 (h4 : ((obS (obE es [(Fd.s s)])) = (obS (Ob.node [(Fd.w (obD (obE es [(Fd.s s)]))), (Fd.i (obS (obE es [(Fd.s s)])))] ([] : List (List (Rec × Ob)))))))
 (h5 : ((obD (obE es [(Fd.s s)])) = (obD (Ob.node [(Fd.w (obD (obE es [(Fd.s s)]))), (Fd.i (obS (obE es [(Fd.s s)])))] ([] : List (List (Rec × Ob)))))))
 (h6 : ((1 : Int) = e))
 (h7 : ((setE es [(Fd.s s)] (Ob.node [(Fd.w (obD (obE es [(Fd.s s)]))), (Fd.i (obS (obE es [(Fd.s s)])))] ([] : List (List (Rec × Ob))))) = es')) :
 ∃ ps, runO Try.prog DF gA0 100 Try.f21 (dkB ro st fu dn es, [.one (.ref 0 0), .one (.str s), .one (.int .i64 false n)]) [.is true] (eV e) (dkB ro st fu dn es') = some ps ∧ AllQ ps := ⟨_, by kernel_rfl, qc (Eq.refl s) (qc (Eq.refl ro) (qc (Eq.refl st) (qc (Eq.refl fu) (qc (Eq.refl dn) (qc (Eq.refl es) (qc h1 (qc h2 (qc h3 (qc h4 (qc h5 (qc h6 (qc (Eq.refl ro) (qc (Eq.refl st) (qc (Eq.refl fu) (qc (Eq.refl dn) (qc h7 (qn)))))))))))))))))⟩
theorem cu_arg (s : ByteArray) (n ro st fu e : Int) (dn : Bool) (es es' : List (Rec × Ob))
 (h1 : ((errF dn es s) = (0 : Int)))
 (h2 : ((ByteArray.size s) ≤ (9223372036854775807 : Nat)))
 (h3 : ((decide (n < (0 : Int))) = false))
 (h4 : ((decide (n > (((List.length (obD (obE es [(Fd.s s)]))) : Nat) : Int))) = true))
 (h5 : ((obS (obE es [(Fd.s s)])) = (obS (Ob.node [(Fd.w (obD (obE es [(Fd.s s)]))), (Fd.i (obS (obE es [(Fd.s s)])))] ([] : List (List (Rec × Ob)))))))
 (h6 : ((obD (obE es [(Fd.s s)])) = (obD (Ob.node [(Fd.w (obD (obE es [(Fd.s s)]))), (Fd.i (obS (obE es [(Fd.s s)])))] ([] : List (List (Rec × Ob)))))))
 (h7 : ((1 : Int) = e))
 (h8 : ((setE es [(Fd.s s)] (Ob.node [(Fd.w (obD (obE es [(Fd.s s)]))), (Fd.i (obS (obE es [(Fd.s s)])))] ([] : List (List (Rec × Ob))))) = es')) :
 ∃ ps, runO Try.prog DF gA0 100 Try.f21 (dkB ro st fu dn es, [.one (.ref 0 0), .one (.str s), .one (.int .i64 false n)]) [.is false, .is true] (eV e) (dkB ro st fu dn es') = some ps ∧ AllQ ps := ⟨_, by kernel_rfl, qc (Eq.refl s) (qc (Eq.refl ro) (qc (Eq.refl st) (qc (Eq.refl fu) (qc (Eq.refl dn) (qc (Eq.refl es) (qc h1 (qc h2 (qc h3 (qc h4 (qc h5 (qc h6 (qc h7 (qc (Eq.refl ro) (qc (Eq.refl st) (qc (Eq.refl fu) (qc (Eq.refl dn) (qc h8 (qn))))))))))))))))))⟩
theorem cu_down (s : ByteArray) (n ro st fu e st' fu' : Int) (dn dn' : Bool) (es es' : List (Rec × Ob))
 (h1 : ((errF dn es s) = (0 : Int)))
 (h2 : ((ByteArray.size s) ≤ (9223372036854775807 : Nat)))
 (h3 : ((decide (n < (0 : Int))) = false))
 (h4 : ((decide (n > (((List.length (obD (obE es [(Fd.s s)]))) : Nat) : Int))) = false))
 (h5 : ((stV fu) = true))
 (h6 : (StepOK (ro, (st, (fu, (dn, es))))))
 (h7 : ((0 : Int) ≤ n))
 (h8 : (n ≤ (((List.length (obD (obE es [(Fd.s s)]))) : Nat) : Int)))
 (h9 : ((0 : Int) = e))
 (h10 : ((stSt fu st) = st'))
 (h11 : ((stFu fu) = fu'))
 (h12 : ((stDn fu dn) = dn'))
 (h13 : ((setE es [(Fd.s s)] (Ob.node [(Fd.w (List.take (Int.toNat n) (obD (obE es [(Fd.s s)])))), (Fd.i (if (n < (obS (obE es [(Fd.s s)]))) then n else (obS (obE es [(Fd.s s)]))))] ([] : List (List (Rec × Ob))))) = es')) :
 ∃ ps, runO Try.prog DF gA0 100 Try.f21 (dkB ro st fu dn es, [.one (.ref 0 0), .one (.str s), .one (.int .i64 false n)]) [.is false, .is false, .is true] (eV e) (dkB ro st' fu' dn' es') = some ps ∧ AllQ ps := ⟨_, by kernel_rfl, qc (Eq.refl s) (qc (Eq.refl ro) (qc (Eq.refl st) (qc (Eq.refl fu) (qc (Eq.refl dn) (qc (Eq.refl es) (qc h1 (qc h2 (qc h3 (qc h4 (qc h5 (qc (Eq.refl ro) (qc (Eq.refl st) (qc (Eq.refl fu) (qc (Eq.refl dn) (qc (Eq.refl ([(Fd.s s)])) (qc (Eq.refl es) (qc (Eq.refl ((obS (obE es [(Fd.s s)])))) (qc (Eq.refl ((obD (obE es [(Fd.s s)])))) (qc h6 (qc h7 (qc h8 (qc (Eq.refl s) (qc (Eq.refl ((if (n < (obS (obE es [(Fd.s s)]))) then n else (obS (obE es [(Fd.s s)]))))) (qc (Eq.refl ro) (qc (Eq.refl ((stSt fu st))) (qc (Eq.refl ((stFu fu))) (qc (Eq.refl ((stDn fu dn))) (qc (Eq.refl ((List.take (Int.toNat n) (obD (obE es [(Fd.s s)]))))) (qc (Eq.refl ([(Fd.s s)])) (qc (Eq.refl es) (qc (Eq.refl ((obS (obE es [(Fd.s s)])))) (qc (Eq.refl ([(Fd.s s)])) (qc h9 (qc (Eq.refl ro) (qc h10 (qc h11 (qc h12 (qc h13 (qn)))))))))))))))))))))))))))))))))))))))⟩
theorem cu_ok (s : ByteArray) (n ro st fu e st' fu' : Int) (dn dn' : Bool) (es es' : List (Rec × Ob))
 (h1 : ((errF dn es s) = (0 : Int)))
 (h2 : ((ByteArray.size s) ≤ (9223372036854775807 : Nat)))
 (h3 : ((decide (n < (0 : Int))) = false))
 (h4 : ((decide (n > (((List.length (obD (obE es [(Fd.s s)]))) : Nat) : Int))) = false))
 (h5 : ((stV fu) = false))
 (h6 : (StepOK (ro, (st, (fu, (dn, es))))))
 (h7 : ((obS (obE es [(Fd.s s)])) = (obS (Ob.node [(Fd.w (obD (obE es [(Fd.s s)]))), (Fd.i (obS (obE es [(Fd.s s)])))] ([] : List (List (Rec × Ob)))))))
 (h8 : ((obD (obE es [(Fd.s s)])) = (obD (Ob.node [(Fd.w (obD (obE es [(Fd.s s)]))), (Fd.i (obS (obE es [(Fd.s s)])))] ([] : List (List (Rec × Ob)))))))
 (h9 : ((2 : Int) = e))
 (h10 : ((stSt fu st) = st'))
 (h11 : ((stFu fu) = fu'))
 (h12 : ((stDn fu dn) = dn'))
 (h13 : ((setE es [(Fd.s s)] (Ob.node [(Fd.w (obD (obE es [(Fd.s s)]))), (Fd.i (obS (obE es [(Fd.s s)])))] ([] : List (List (Rec × Ob))))) = es')) :
 ∃ ps, runO Try.prog DF gA0 100 Try.f21 (dkB ro st fu dn es, [.one (.ref 0 0), .one (.str s), .one (.int .i64 false n)]) [.is false, .is false, .is false] (eV e) (dkB ro st' fu' dn' es') = some ps ∧ AllQ ps := ⟨_, by kernel_rfl, qc (Eq.refl s) (qc (Eq.refl ro) (qc (Eq.refl st) (qc (Eq.refl fu) (qc (Eq.refl dn) (qc (Eq.refl es) (qc h1 (qc h2 (qc h3 (qc h4 (qc h5 (qc (Eq.refl ro) (qc (Eq.refl st) (qc (Eq.refl fu) (qc (Eq.refl dn) (qc (Eq.refl ([(Fd.s s)])) (qc (Eq.refl es) (qc (Eq.refl ((obS (obE es [(Fd.s s)])))) (qc (Eq.refl ((obD (obE es [(Fd.s s)])))) (qc h6 (qc h7 (qc h8 (qc h9 (qc (Eq.refl ro) (qc h10 (qc h11 (qc h12 (qc h13 (qn))))))))))))))))))))))))))))⟩
theorem mv_bad (s t : ByteArray) (ro st fu e : Int) (dn : Bool) (es : List (Rec × Ob))
 (h1 : ((errF dn es s) ≠ (0 : Int)))
 (h2 : ((ByteArray.size s) ≤ (9223372036854775807 : Nat)))
 (h3 : (((errF dn es s) != (0 : Int)) = true))
 (h4 : ((errF dn es s) = e)) :
 ∃ ps, runO Try.prog DF gA1 100 Try.f37 (dkB ro st fu dn es, [.one (.ref 0 0), .one (.str s), .one (.str t)]) [.is true] (eV e) (dkB ro st fu dn es) = some ps ∧ AllQ ps := ⟨_, by kernel_rfl, qc (Eq.refl s) (qc (Eq.refl ro) (qc (Eq.refl st) (qc (Eq.refl fu) (qc (Eq.refl dn) (qc (Eq.refl es) (qc h1 (qc h2 (qc h3 (qc h4 (qc (Eq.refl ro) (qc (Eq.refl st) (qc (Eq.refl fu) (qc (Eq.refl dn) (qc (Eq.refl es) (qn)))))))))))))))⟩
theorem mv_name (s t : ByteArray) (ro st fu e : Int) (dn : Bool) (es es' : List (Rec × Ob))
 (h1 : ((errF dn es s) = (0 : Int)))
 (h2 : ((ByteArray.size s) ≤ (9223372036854775807 : Nat)))
 (h3 : ((rightB t) = false))
 (h4 : ((ByteArray.size t) ≤ (9223372036854775807 : Nat)))
 (h5 : ((obS (obE es [(Fd.s s)])) = (obS (Ob.node [(Fd.w (obD (obE es [(Fd.s s)]))), (Fd.i (obS (obE es [(Fd.s s)])))] ([] : List (List (Rec × Ob)))))))
 (h6 : ((obD (obE es [(Fd.s s)])) = (obD (Ob.node [(Fd.w (obD (obE es [(Fd.s s)]))), (Fd.i (obS (obE es [(Fd.s s)])))] ([] : List (List (Rec × Ob)))))))
 (h7 : ((40 : Int) = e))
 (h8 : ((setE es [(Fd.s s)] (Ob.node [(Fd.w (obD (obE es [(Fd.s s)]))), (Fd.i (obS (obE es [(Fd.s s)])))] ([] : List (List (Rec × Ob))))) = es')) :
 ∃ ps, runO Try.prog DF gA0 100 Try.f37 (dkB ro st fu dn es, [.one (.ref 0 0), .one (.str s), .one (.str t)]) [.is false] (eV e) (dkB ro st fu dn es') = some ps ∧ AllQ ps := ⟨_, by kernel_rfl, qc (Eq.refl s) (qc (Eq.refl ro) (qc (Eq.refl st) (qc (Eq.refl fu) (qc (Eq.refl dn) (qc (Eq.refl es) (qc h1 (qc h2 (qc h3 (qc h4 (qc h5 (qc h6 (qc h7 (qc (Eq.refl ro) (qc (Eq.refl st) (qc (Eq.refl fu) (qc (Eq.refl dn) (qc h8 (qn))))))))))))))))))⟩
theorem mv_down (s t : ByteArray) (ro st fu e st' fu' : Int) (dn dn' : Bool) (es es' : List (Rec × Ob))
 (h1 : ((errF dn es s) = (0 : Int)))
 (h2 : ((ByteArray.size s) ≤ (9223372036854775807 : Nat)))
 (h3 : ((rightB t) = true))
 (h4 : ((ByteArray.size t) ≤ (9223372036854775807 : Nat)))
 (h5 : ((stV fu) = true))
 (h6 : (StepOK (ro, (st, (fu, (dn, es))))))
 (h7 : (KeyT Try.prog (9 : TypeId) false [FK.str]))
 (h8 : ((keyOK [FK.str] [(Fd.s s)]) = true))
 (h9 : ((0 : Int) = e))
 (h10 : ((stSt fu st) = st'))
 (h11 : ((stFu fu) = fu'))
 (h12 : ((stDn fu dn) = dn'))
 (h13 : ((setE (delE es [(Fd.s s)]) [(Fd.s t)] (Ob.node [(Fd.w (obD (obE es [(Fd.s s)]))), (Fd.i (obS (obE es [(Fd.s s)])))] ([] : List (List (Rec × Ob))))) = es')) :
 ∃ ps, runO Try.prog DF gA0 100 Try.f37 (dkB ro st fu dn es, [.one (.ref 0 0), .one (.str s), .one (.str t)]) [.is true, .is true] (eV e) (dkB ro st' fu' dn' es') = some ps ∧ AllQ ps := ⟨_, by kernel_rfl, qc (Eq.refl s) (qc (Eq.refl ro) (qc (Eq.refl st) (qc (Eq.refl fu) (qc (Eq.refl dn) (qc (Eq.refl es) (qc h1 (qc h2 (qc h3 (qc h4 (qc h5 (qc (Eq.refl ro) (qc (Eq.refl st) (qc (Eq.refl fu) (qc (Eq.refl dn) (qc (Eq.refl ([(Fd.s s)])) (qc (Eq.refl es) (qc (Eq.refl ((obS (obE es [(Fd.s s)])))) (qc (Eq.refl ((obD (obE es [(Fd.s s)])))) (qc h6 (qc h7 (qc h8 (qc (Eq.refl ([(Fd.s s)])) (qc (Eq.refl t) (qc (Eq.refl ((obS (obE es [(Fd.s s)])))) (qc (Eq.refl ro) (qc (Eq.refl ((stSt fu st))) (qc (Eq.refl ((stFu fu))) (qc (Eq.refl ((stDn fu dn))) (qc (Eq.refl ((obD (obE es [(Fd.s s)])))) (qc (Eq.refl ((delE es [(Fd.s s)]))) (qc (show True from by decide) (qc h9 (qc (Eq.refl ro) (qc h10 (qc h11 (qc h12 (qc h13 (qn))))))))))))))))))))))))))))))))))))))⟩
theorem mv_ok (s t : ByteArray) (ro st fu e st' fu' : Int) (dn dn' : Bool) (es es' : List (Rec × Ob))
 (h1 : ((errF dn es s) = (0 : Int)))
 (h2 : ((ByteArray.size s) ≤ (9223372036854775807 : Nat)))
 (h3 : ((rightB t) = true))
 (h4 : ((ByteArray.size t) ≤ (9223372036854775807 : Nat)))
 (h5 : ((stV fu) = false))
 (h6 : (StepOK (ro, (st, (fu, (dn, es))))))
 (h7 : ((obS (obE es [(Fd.s s)])) = (obS (Ob.node [(Fd.w (obD (obE es [(Fd.s s)]))), (Fd.i (obS (obE es [(Fd.s s)])))] ([] : List (List (Rec × Ob)))))))
 (h8 : ((obD (obE es [(Fd.s s)])) = (obD (Ob.node [(Fd.w (obD (obE es [(Fd.s s)]))), (Fd.i (obS (obE es [(Fd.s s)])))] ([] : List (List (Rec × Ob)))))))
 (h9 : ((2 : Int) = e))
 (h10 : ((stSt fu st) = st'))
 (h11 : ((stFu fu) = fu'))
 (h12 : ((stDn fu dn) = dn'))
 (h13 : ((setE es [(Fd.s s)] (Ob.node [(Fd.w (obD (obE es [(Fd.s s)]))), (Fd.i (obS (obE es [(Fd.s s)])))] ([] : List (List (Rec × Ob))))) = es')) :
 ∃ ps, runO Try.prog DF gA0 100 Try.f37 (dkB ro st fu dn es, [.one (.ref 0 0), .one (.str s), .one (.str t)]) [.is true, .is false] (eV e) (dkB ro st' fu' dn' es') = some ps ∧ AllQ ps := ⟨_, by kernel_rfl, qc (Eq.refl s) (qc (Eq.refl ro) (qc (Eq.refl st) (qc (Eq.refl fu) (qc (Eq.refl dn) (qc (Eq.refl es) (qc h1 (qc h2 (qc h3 (qc h4 (qc h5 (qc (Eq.refl ro) (qc (Eq.refl st) (qc (Eq.refl fu) (qc (Eq.refl dn) (qc (Eq.refl ([(Fd.s s)])) (qc (Eq.refl es) (qc (Eq.refl ((obS (obE es [(Fd.s s)])))) (qc (Eq.refl ((obD (obE es [(Fd.s s)])))) (qc h6 (qc h7 (qc h8 (qc h9 (qc (Eq.refl ro) (qc h10 (qc h11 (qc h12 (qc h13 (qn))))))))))))))))))))))))))))⟩
theorem dr_bad (s : ByteArray) (ro st fu e : Int) (dn : Bool) (es : List (Rec × Ob))
 (h1 : ((errF dn es s) ≠ (0 : Int)))
 (h2 : ((ByteArray.size s) ≤ (9223372036854775807 : Nat)))
 (h3 : (((errF dn es s) != (0 : Int)) = true))
 (h4 : ((errF dn es s) = e)) :
 ∃ ps, runO Try.prog DF gA1 100 Try.f20 (dkB ro st fu dn es, [.one (.ref 0 0), .one (.str s)]) [.is true] (eV e) (dkB ro st fu dn es) = some ps ∧ AllQ ps := ⟨_, by kernel_rfl, qc (Eq.refl s) (qc (Eq.refl ro) (qc (Eq.refl st) (qc (Eq.refl fu) (qc (Eq.refl dn) (qc (Eq.refl es) (qc h1 (qc h2 (qc h3 (qc h4 (qc (Eq.refl ro) (qc (Eq.refl st) (qc (Eq.refl fu) (qc (Eq.refl dn) (qc (Eq.refl es) (qn)))))))))))))))⟩
theorem dr_down (s : ByteArray) (ro st fu e st' fu' : Int) (dn dn' : Bool) (es es' : List (Rec × Ob))
 (h1 : ((errF dn es s) = (0 : Int)))
 (h2 : ((ByteArray.size s) ≤ (9223372036854775807 : Nat)))
 (h3 : ((stV fu) = true))
 (h4 : (StepOK (ro, (st, (fu, (dn, es))))))
 (h5 : (KeyT Try.prog (9 : TypeId) false [FK.str]))
 (h6 : ((keyOK [FK.str] [(Fd.s s)]) = true))
 (h7 : ((0 : Int) = e))
 (h8 : ((stSt fu st) = st'))
 (h9 : ((stFu fu) = fu'))
 (h10 : ((stDn fu dn) = dn'))
 (h11 : ((delE es [(Fd.s s)]) = es')) :
 ∃ ps, runO Try.prog DF gA0 100 Try.f20 (dkB ro st fu dn es, [.one (.ref 0 0), .one (.str s)]) [.is true] (eV e) (dkB ro st' fu' dn' es') = some ps ∧ AllQ ps := ⟨_, by kernel_rfl, qc (Eq.refl s) (qc (Eq.refl ro) (qc (Eq.refl st) (qc (Eq.refl fu) (qc (Eq.refl dn) (qc (Eq.refl es) (qc h1 (qc h2 (qc h3 (qc (Eq.refl ro) (qc (Eq.refl st) (qc (Eq.refl fu) (qc (Eq.refl dn) (qc (Eq.refl ([(Fd.s s)])) (qc (Eq.refl es) (qc (Eq.refl ((obS (obE es [(Fd.s s)])))) (qc (Eq.refl ((obD (obE es [(Fd.s s)])))) (qc h4 (qc h5 (qc h6 (qc (Eq.refl ([(Fd.s s)])) (qc h7 (qc (Eq.refl ro) (qc h8 (qc h9 (qc h10 (qc h11 (qn)))))))))))))))))))))))))))⟩
theorem dr_ok (s : ByteArray) (ro st fu e st' fu' : Int) (dn dn' : Bool) (es es' : List (Rec × Ob))
 (h1 : ((errF dn es s) = (0 : Int)))
 (h2 : ((ByteArray.size s) ≤ (9223372036854775807 : Nat)))
 (h3 : ((stV fu) = false))
 (h4 : (StepOK (ro, (st, (fu, (dn, es))))))
 (h5 : ((obS (obE es [(Fd.s s)])) = (obS (Ob.node [(Fd.w (obD (obE es [(Fd.s s)]))), (Fd.i (obS (obE es [(Fd.s s)])))] ([] : List (List (Rec × Ob)))))))
 (h6 : ((obD (obE es [(Fd.s s)])) = (obD (Ob.node [(Fd.w (obD (obE es [(Fd.s s)]))), (Fd.i (obS (obE es [(Fd.s s)])))] ([] : List (List (Rec × Ob)))))))
 (h7 : ((2 : Int) = e))
 (h8 : ((stSt fu st) = st'))
 (h9 : ((stFu fu) = fu'))
 (h10 : ((stDn fu dn) = dn'))
 (h11 : ((setE es [(Fd.s s)] (Ob.node [(Fd.w (obD (obE es [(Fd.s s)]))), (Fd.i (obS (obE es [(Fd.s s)])))] ([] : List (List (Rec × Ob))))) = es')) :
 ∃ ps, runO Try.prog DF gA0 100 Try.f20 (dkB ro st fu dn es, [.one (.ref 0 0), .one (.str s)]) [.is false] (eV e) (dkB ro st' fu' dn' es') = some ps ∧ AllQ ps := ⟨_, by kernel_rfl, qc (Eq.refl s) (qc (Eq.refl ro) (qc (Eq.refl st) (qc (Eq.refl fu) (qc (Eq.refl dn) (qc (Eq.refl es) (qc h1 (qc h2 (qc h3 (qc (Eq.refl ro) (qc (Eq.refl st) (qc (Eq.refl fu) (qc (Eq.refl dn) (qc (Eq.refl ([(Fd.s s)])) (qc (Eq.refl es) (qc (Eq.refl ((obS (obE es [(Fd.s s)])))) (qc (Eq.refl ((obD (obE es [(Fd.s s)])))) (qc h4 (qc h5 (qc h6 (qc h7 (qc (Eq.refl ro) (qc h8 (qc h9 (qc h10 (qc h11 (qn))))))))))))))))))))))))))⟩
end Go.Num

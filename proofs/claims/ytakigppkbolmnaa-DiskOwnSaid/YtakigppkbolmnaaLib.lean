/- Small things that the texts share. -/
import Derived.Test.YtakigppkbolmnaaAbsP
import Derived.Test.YtakigppkbolmnaaProg
import Derived.Shelf.Abstract
namespace Go.Num
open Go.Abs Go.Proofs Go.Shelf

theorem gam_nil {P : Program} {D : Dom} : GamOK P D [] := fun x hx => by cases hx
theorem gam_cons {P : Program} {D : Dom} {f : FuncId} {F : FnD D} {Γ : Gam D} (h : FnOK P D f F) (k : GamOK P D Γ) : GamOK P D ((f, .fn F) :: Γ) := by
  intro x hx
  rcases List.mem_cons.1 hx with rfl | hx
  · exact h
  · exact k x hx

theorem gam_op {P : Program} {D : Dom} {f : FuncId} {ms : List Bool} {F : List (BoxSt D.τ) → List (A0 D.τ) → Option (AV D.τ × List (BoxSt D.τ) × List Prop)} {Γ : Gam D} (h : OpOK P D f F) (k : GamOK P D Γ) : GamOK P D ((f, .op ms F) :: Γ) := by
  intro x hx
  rcases List.mem_cons.1 hx with rfl | hx
  · exact h
  · exact k x hx

theorem gam_rd {P : Program} {D : Dom} {f : FuncId} {ms : List Bool} {F : List (BoxSt D.τ) → List (A0 D.τ) → Option (AV D.τ × List (BoxSt D.τ) × List Prop)} {Γ : Gam D} (h : OpOK P D f (withNew F)) (k : GamOK P D Γ) : GamOK P D ((f, .rd ms F) :: Γ) := by
  intro x hx
  rcases List.mem_cons.1 hx with rfl | hx
  · exact h
  · exact k x hx

theorem gam_fz {P : Program} {D : Dom} {f : FuncId} {F : FnD D} {Γ : Gam D} (h : FnOK P D f F) (k : GamOK P D Γ) : GamOK P D ((f, .fz F) :: Γ) := by
  intro x hx
  rcases List.mem_cons.1 hx with rfl | hx
  · exact h
  · exact k x hx

/-- Where arrays that are sliced are known for ever: at these slots. -/
def freezeD (D : Dom) (l : List Int) : FnD D
  | [.one (.int _ _ n)] => bif l.any (fun m => decide (n = m)) then some (.tup [], [False]) else none
  | _ => none

theorem gam_freeze {P : Program} {D : Dom} {l : List Int} {Γ : Gam D} (k : GamOK P D Γ) : GamOK P D ((freezeId, .fn (freezeD D l)) :: Γ) := by
  refine gam_cons (fun xs r ps h hps => ?_) k
  unfold freezeD at h
  split at h
  · rename_i n
    cases hb : l.any (fun m => decide (n = m)) <;> simp only [hb, cond_true, cond_false] at h
    · cases h
    · simp only [Option.some.injEq, Prod.mk.injEq] at h
      obtain ⟨_, rfl⟩ := h
      exact (hps False (by simp)).elim
  · cases h

theorem gam_swap {P : Program} {D : Dom} {l : List Int} {Γ : Gam D} (k : GamOK P D Γ) : GamOK P D ((swapId, .fn (freezeD D l)) :: Γ) := by
  refine gam_cons (fun xs r ps h hps => ?_) k
  unfold freezeD at h
  split at h
  · rename_i n
    cases hb : l.any (fun m => decide (n = m)) <;> simp only [hb, cond_true, cond_false] at h
    · cases h
    · simp only [Option.some.injEq, Prod.mk.injEq] at h
      obtain ⟨_, rfl⟩ := h
      exact (hps False (by simp)).elim
  · cases h

/-- How keys are looked for: at these slots so. -/
def lookD (D : Dom) (l : List (Int × Int)) : FnD D
  | [.one (.int _ _ n)] => match l.find? (fun x => decide (x.1 = n)) with
    | some x => some (.v (.one (.int .i64 true x.2)), [False])
    | none => none
  | _ => none

theorem gam_look {P : Program} {D : Dom} {l : List (Int × Int)} {Γ : Gam D} (k : GamOK P D Γ) : GamOK P D ((lookId, .fn (lookD D l)) :: Γ) := by
  refine gam_cons (fun xs r ps h hps => ?_) k
  unfold lookD at h
  split at h
  · split at h
    · simp only [Option.some.injEq, Prod.mk.injEq] at h
      obtain ⟨_, rfl⟩ := h
      exact (hps False (by simp)).elim
    · cases h
  · cases h

theorem gam_soft {P : Program} {D : Dom} {Γ : Gam D} (k : GamOK P D Γ) : GamOK P D ((softId, .fn fun _ => none) :: Γ) :=
  gam_cons (fun _ _ _ h => by cases h) k

theorem mixed : Try.prog.follows .mixedOrders = true := by kernel_rfl

theorem allQ_nil : AllQ [] := fun p hp => by cases hp
theorem allQ_cons {p : Prop} {ps : List Prop} (h : p) (k : AllQ ps) : AllQ (p :: ps) := by
  intro q hq
  rcases List.mem_cons.1 hq with rfl | hq
  · exact h
  · exact k q hq
theorem allQ_append {ps qs : List Prop} (h : AllQ ps) (k : AllQ qs) : AllQ (ps ++ qs) := by
  intro q hq
  rcases List.mem_append.1 hq with hq | hq
  · exact h q hq
  · exact k q hq

theorem args2 {D : Dom} {E : Env} {a b a' b' : A0 D.τ} {vs : List Value} (ha : ∀ v, A0Rel D E a v → A0Rel D E a' v) (hb : ∀ v, A0Rel D E b v → A0Rel D E b' v) (h : A0sRel D E [a, b] vs) : A0sRel D E [a', b'] vs := by
  obtain ⟨v, us, rfl, h1, v', us', rfl, h2, h3⟩ := h
  cases h3
  exact ⟨v, _, rfl, ha _ h1, v', _, rfl, hb _ h2, rfl⟩

theorem args1 {D : Dom} {E : Env} {a a' : A0 D.τ} {vs : List Value} (ha : ∀ v, A0Rel D E a v → A0Rel D E a' v) (h : A0sRel D E [a] vs) : A0sRel D E [a'] vs := by
  obtain ⟨v, us, rfl, h1, h3⟩ := h
  cases h3
  exact ⟨v, _, rfl, ha _ h1, rfl⟩

theorem tup2 {D : Dom} {E : Env} {a b a' b' : A0 D.τ} {v : Value} (ha : ∀ v, A0Rel D E a v → A0Rel D E a' v) (hb : ∀ v, A0Rel D E b v → A0Rel D E b' v) (h : AVRel D E (.tup [a, b]) v) : AVRel D E (.tup [a', b']) v := by
  obtain ⟨vs, rfl, h⟩ := h
  exact ⟨vs, rfl, args2 ha hb h⟩

theorem one_int {D : Dom} {E : Env} {k : IntKind} {b c : Bool} {x y : Int} {v : Value} (h : x = y) (hv : A0Rel D E (.one (.int k b x)) v) : A0Rel D E (.one (.int k c y)) v := by rw [← h]; exact hv
theorem one_bool {D : Dom} {E : Env} {b c x y : Bool} {v : Value} (h : x = y) (hv : A0Rel D E (.one (.bool b x)) v) : A0Rel D E (.one (.bool c y)) v := by rw [← h]; exact hv

theorem args_cons {D : Dom} {E : Env} {a a' : A0 D.τ} {ys zs : List (A0 D.τ)} (ha : ∀ v, A0Rel D E a v → A0Rel D E a' v) (h : ∀ vs, A0sRel D E ys vs → A0sRel D E zs vs) : ∀ vs, A0sRel D E (a :: ys) vs → A0sRel D E (a' :: zs) vs := by
  rintro _ ⟨v, us, rfl, h1, h2⟩
  exact ⟨v, us, rfl, ha v h1, h us h2⟩
theorem int_lit {D : Dom} {E : Env} {k : IntKind} {b c : Bool} {x : Int} : ∀ v, A0Rel D E (.one (.int k b x)) v → A0Rel D E (.one (.int k c x)) v := fun _ h => h

theorem args0 {D : Dom} {E : Env} {vs : List Value} (h : A0sRel D E [] vs) : vs = [] := h

/-- What a function does may be told otherwise. -/
theorem fnOK_post {P : Program} {D : Dom} {f : FuncId} {F G : FnD D} (h : FnOK P D f F)
    (k : ∀ xs r ps, G xs = some (r, ps) → AllQ ps → ∃ xs' r' qs, (∀ w vs, A0sRel D (cenv w) xs vs → A0sRel D (cenv w) xs' vs) ∧ F xs' = some (r', qs) ∧ AllQ qs ∧ ∀ E v, AVRel D E r' v → AVRel D E r v) : FnOK P D f G := by
  intro xs r ps hG hps w vs hgl hx
  obtain ⟨xs', r', qs, h1, h2, h3, h4⟩ := k xs r ps hG hps
  obtain ⟨next, hn, hm⟩ := h xs' r' qs h2 h3 w vs hgl (h1 w vs hx)
  refine ⟨next, hn, ?_⟩
  split at hm
  · obtain ⟨ν, hd, hr⟩ := hm
    exact ⟨ν, hd, h4 _ _ hr⟩
  · exact hm.mono fun e w' ⟨v, he, ⟨ν, hd, hr⟩, hb⟩ => ⟨v, he, ⟨ν, hd, h4 _ _ hr⟩, hb⟩
  · exact hm

def loopOf : Nat → Code → Option Code
  | 0, _ => none
  | f + 1, c => match c with
    | .loop a => some a
    | .seq a b => match loopOf f a with
      | some x => some x
      | none => loopOf f b
    | .block _ a => loopOf f a
    | .scope a => loopOf f a
    | .cond _ a b => match loopOf f a with
      | some x => some x
      | none => loopOf f b
    | _ => none

noncomputable def bodyOf (fn : Func) : Code :=
  match fn.body with
  | some c => (match loopOf 100 c with | some a => a | none => .skip)
  | none => .skip

/-- The bodies of all loops, an outer one ahead of those in it. -/
def loopsOf : Nat → Code → List Code
  | 0, _ => []
  | f + 1, c => match c with
    | .loop a => a :: loopsOf f a
    | .seq a b => loopsOf f a ++ loopsOf f b
    | .block _ a => loopsOf f a
    | .scope a => loopsOf f a
    | .cond _ a b => loopsOf f a ++ loopsOf f b
    | _ => []

noncomputable def bodyN (fn : Func) (k : Nat) : Code :=
  match fn.body with
  | some c => (loopsOf 200 c).getD k .skip
  | none => .skip

theorem refl_all {α : Type} (l : List α) : AllQ (l.map fun a => a = a) := by
  intro p hp
  obtain ⟨a, _, rfl⟩ := List.mem_map.1 hp
  rfl

theorem reflj_all {α β : Type} (f : α → β) (l : List α) : AllQ (l.map fun a => f a = f a) := by
  intro p hp
  obtain ⟨a, _, rfl⟩ := List.mem_map.1 hp
  rfl

/-- As fnOK_of; what comes out may be told in any other way. -/
theorem fnOK_ofR {P : Program} {D : Dom} {Γ : Gam D} (hΓ : GamOK P D Γ) (hm : P.follows .mixedOrders = true) {f : FuncId} {fn : Func} {F : FnD D} (hf : P.funcs[f]? = some fn)
    (hc : ∀ args w, (callFunc f args).run P w = .ok (.enter f args) w)
    (h : ∀ xs r ps, F xs = some (r, ps) → AllQ ps → ∃ xs' fuel ds r' qs, (∀ w vs, A0sRel D (cenv w) xs vs → A0sRel D (cenv w) xs' vs) ∧ runF P D Γ fuel fn xs' ds = some (r', qs) ∧ AllQ qs ∧
      ∀ w w' v, RRes D w w' r' v → RRes D w w' r v) : FnOK P D f F := by
  intro xs r ps hF hps w vs hgl hx
  obtain ⟨xs', fuel, ds, r', qs, h1, h2, h3, h4⟩ := h xs r ps hF hps
  refine ⟨_, hc _ w, ?_⟩
  refine (runF_calls hΓ hm hf h2 h3 hgl (h1 w vs hx)).mono ?_
  rintro e w' ⟨v, he, hr, hb⟩
  exact ⟨v, he, h4 _ _ _ hr, hb⟩

theorem rres_mono {D : Dom} {w w' : World} {r r' : AV D.τ} {v : Value} (h : ∀ E v, AVRel D E r' v → AVRel D E r v) (hr : RRes D w w' r' v) : RRes D w w' r v := by
  obtain ⟨ν, hd, h1⟩ := hr
  exact ⟨ν, hd, h _ _ h1⟩

/-- Where no new memory is spoken of, the new memory may be named as one likes. -/
def nilν : Nat → Value := fun _ => .slice none 0 0
theorem nilν_disj : ∀ i j g, i ≠ j → (nilν i).ownBlock = some g → (nilν j).ownBlock = some g → False := fun _ _ _ _ h _ => by cases h
theorem fresh_nil {D : Dom} {w w' : World} {e : TypeId} {k : IntKind} : PartRel D (renv w w' nilν) (.fresh 0 e k []) [.slice none 0 0] :=
  ⟨rfl, w', rfl, rfl, .inl ⟨rfl, rfl⟩⟩

end Go.Num

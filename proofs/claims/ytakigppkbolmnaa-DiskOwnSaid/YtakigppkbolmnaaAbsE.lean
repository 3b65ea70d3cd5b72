/- An evaluator over descriptions of values: functions. -/
import Derived.Test.YtakigppkbolmnaaAbsD
namespace Go.Abs
open Go.RowKit
section
variable (P : Program) (D : Dom)

def argSlots : Nat → List (A0 D.τ) → Nat → Option (AV D.τ)
  | _, [], _ => none
  | i, x :: xs, t => bif Nat.beq t i then some (.v x) else argSlots (i + 1) xs t

/-- How a function begins. -/
def St.start (n : Nat) (xs : List (A0 D.τ)) : St D.τ := ⟨argSlots D 0 xs, fun _ => .un, n, 0⟩

/-- What is handed back: what the function made becomes new memory of the caller's. 'bs': the boxes that went ahead. -/
def giveP (S : St D.τ) (bs : List Nat) : Part D.τ → Option (Part D.τ × List Nat)
  | .own b => match S.box b with
    | .dyn e (.ints k l) => bif bs.any (Nat.beq b) then none else some (.fresh bs.length e k l, bs ++ [b])
    | _ => none
  | .int k l n => some (.int k l n, bs)
  | .bool l n => some (.bool l n, bs)
  | .str s => some (.str s, bs)
  | .nil => some (.nil, bs)
  | .tag t => some (.tag t, bs)
  | .ints k l => some (.ints k l, bs)
  | .tags s l => some (.tags s l, bs)
  | .arr k n l => some (.arr k n l, bs)
  | .nilp => some (.nilp, bs)
  | _ => none

def givePs (S : St D.τ) : List Nat → List (Part D.τ) → Option (List (Part D.τ) × List Nat)
  | bs, [] => some ([], bs)
  | bs, p :: ps => match giveP D S bs p with
    | some (q, b1) => match givePs S b1 ps with
      | some (qs, b2) => some (q :: qs, b2)
      | none => none
    | none => none

def give0 (S : St D.τ) (bs : List Nat) : A0 D.τ → Option (A0 D.τ × List Nat)
  | .one p => match giveP D S bs p with
    | some (q, b1) => some (.one q, b1)
    | none => none
  | .agg ps => match givePs D S bs ps with
    | some (qs, b1) => some (.agg qs, b1)
    | none => none

def give0s (S : St D.τ) : List Nat → List (A0 D.τ) → Option (List (A0 D.τ) × List Nat)
  | bs, [] => some ([], bs)
  | bs, p :: ps => match give0 D S bs p with
    | some (q, b1) => match give0s S b1 ps with
      | some (qs, b2) => some (q :: qs, b2)
      | none => none
    | none => none

/-- What a result's variable holds. -/
def cellRes (S : St D.τ) (a : Nat) (ty : TypeId) : Option (A0 D.τ × List Prop) :=
  match szOf P ty with
  | none => none
  | some n => match S.slot a with
    | some (.v (.one (.ref b off))) => match S.box b with
      | .fixed _ [.ints k l] => bif aggB P ty && Nat.beq off 0 then some (.agg [.ints k l], [l.length = n]) else none
      | .fixed _ ps => match splitP D ps off n with
        | some (_, m, _) => match mkAV (aggB P ty) m with
          | some (.v x) => some (x, [])
          | _ => none
        | none => none
      | _ => none
    | _ => none

def resOne (S : St D.τ) : ResultVar → Option (A0 D.τ × List Prop)
  | .tmp t => match S.slot t with
    | some (.v a) => some (a, [])
    | _ => none
  | .cell a ty => cellRes P D S a ty

def resList (S : St D.τ) : List ResultVar → Option (List (A0 D.τ) × List Prop)
  | [] => some ([], [])
  | r :: rs => match resOne P D S r with
    | some (a, c) => match resList S rs with
      | some (as, cs) => some (a :: as, c ++ cs)
      | none => none
    | none => none

def fnRes (S : St D.τ) (rs : List ResultVar) : Option (AV D.τ × List Prop) :=
  match resList P D S rs with
  | some ([a], c) => match give0 D S [] a with
    | some (q, _) => some (.v q, c)
    | none => none
  | some (as, c) => match give0s D S [] as with
    | some (qs, _) => some (.tup qs, c)
    | none => none
  | none => none

/-- A function carried out on descriptions. -/
def runF (Γ : Gam D) (fuel : Nat) (fn : Func) (xs : List (A0 D.τ)) (ds : List (Dec D.τ)) : Option (AV D.τ × List Prop) :=
  match fn.body with
  | some c => bif Nat.ble xs.length fn.ntmps then
      match exec P D Γ fuel c 0 (St.start D fn.ntmps xs) ds with
      | some ⟨.exit _, _, _, _, _⟩ => none
      | some ⟨_, S, ps, _, _⟩ => match fnRes P D S fn.results.toList with
        | some (r, qs) => some (r, ps ++ qs)
        | none => none
      | none => none
    else none
  | none => none

end
section
variable {P : Program} {D : Dom}

theorem argSlots_get : ∀ {xs : List (A0 D.τ)} {i t : Nat} {x : AV D.τ}, argSlots D i xs t = some x → ∃ a, i ≤ t ∧ xs[t - i]? = some a ∧ x = .v a
  | [], i, t, x, h => by cases h
  | a :: xs, i, t, x, h => by
    simp only [argSlots] at h
    cases hb : Nat.beq t i <;> simp only [hb, cond_true, cond_false] at h
    · obtain ⟨b, h1, h2, h3⟩ := argSlots_get h
      refine ⟨b, by omega, ?_, h3⟩
      rw [show t - i = (t - (i + 1)) + 1 from by omega]
      exact h2
    · have := Nat.eq_of_beq_eq_true hb
      subst this
      simp only [Option.some.injEq] at h
      exact ⟨a, Nat.le_refl _, by simp, h.symm⟩

theorem start_R {xs : List (A0 D.τ)} {vs : List Value} {w : World} {n : Nat} (hG : GlobAt D w) (hx : A0sRel D (cenv w) xs vs) (hl : vs.length ≤ n) :
    R D (noM w) w (St.start D n xs) ⟨vs.toArray ++ Array.replicate (n - vs.toArray.size) undef, []⟩ w := by
  refine ⟨⟨fun _ => 0, w, fun g => g < w.heap.size, fun _ _ => False⟩, fun _ => undef, ⟨fun _ => trivial, (fun _ _ _ _ h _ => by cases h), (fun _ _ h => by cases h), Kept.refl _ w, fun _ h => ⟨h, rfl⟩, (fun _ _ h => by cases h), fun b hb => absurd hb (Nat.not_lt_zero b), ⟨hG, fun _ _ _ _ h => h⟩, fun _ h => ⟨h, rfl⟩, fun _ h => .inl h⟩, ⟨?_, rfl, fun t av h => ?_⟩⟩
  · simp [St.start]; omega
  · obtain ⟨a, h1, h2, rfl⟩ := argSlots_get h
    obtain ⟨v, hv, hr⟩ := hx.get h2
    have hlt : t < vs.length := by
      rw [Nat.sub_zero] at hv
      exact (List.getElem?_eq_some_iff.1 hv).1
    have e : (vs.toArray ++ Array.replicate (n - vs.toArray.size) undef).getD t undef = v := by
      rw [Nat.sub_zero] at hv
      simp only [Array.getD_eq_getD_getElem?, Array.getElem?_append, List.size_toArray, hlt, if_true, List.getElem?_toArray, hv, Option.getD_some]
    show A0Rel D _ a _
    rw [e]
    exact hr

/-- The boxes that are given away: all are there, no two are one. -/
def GivOK (S : St D.τ) (bs : List Nat) : Prop := bs.Nodup ∧ ∀ b ∈ bs, ∃ e k l, S.box b = .dyn e (.ints k l)

def givν (ν : Nat → Value) (bs : List Nat) (i : Nat) : Value := ((bs[i]?).map ν).getD undef

theorem giveP_sound {w0 : World} {σ : Loc} {ν : Nat → Value} {S : St D.τ} {w : World} (hR : RR D (noM w0) w0 σ ν S w) {bs b1 : List Nat} {p q : Part D.τ} {cs : List Value}
    (h : giveP D S bs p = some (q, b1)) (hb : GivOK S bs) (hp : PartRel D (S.env D (noM w0) w0 σ ν) p cs) :
    GivOK S b1 ∧ (∃ x, b1 = bs ++ x) ∧ ∀ y, PartRel D (renv w0 w (givν ν (b1 ++ y))) q cs := by
  unfold giveP at h
  split at h
  · rename_i b
    split at h
    · rename_i e k l hbx
      cases hin : bs.any (Nat.beq b) <;> simp only [hin, cond_true, cond_false] at h
      · simp only [Option.some.injEq, Prod.mk.injEq] at h
        obtain ⟨rfl, rfl⟩ := h
        have hnot : b ∉ bs := fun hm => by
          have : bs.any (Nat.beq b) = true := List.any_eq_true.2 ⟨b, hm, by simp⟩
          rw [this] at hin; cases hin
        refine ⟨⟨?_, ?_⟩, ⟨_, rfl⟩, fun y => ?_⟩
        · rw [List.nodup_append]
          exact ⟨hb.1, by simp, fun a ha c hc => by simp at hc; subst hc; exact fun e => hnot (e ▸ ha)⟩
        · intro c hc
          rcases List.mem_append.1 hc with hc | hc
          · exact hb.2 c hc
          · simp at hc; subst hc; exact ⟨e, k, l, hbx⟩
        · obtain ⟨_, _, hcs⟩ := hp
          have hν : givν ν (bs ++ [b] ++ y) bs.length = ν b := by
            simp [givν]
          have hbox := hR.boxes b
          rw [hbx] at hbox
          obtain ⟨n, xs, ho, hxs, _⟩ := hbox
          have hxs' : xs = l.map (Value.int k) := hxs
          subst hxs'
          have ho : w.ownsL 0 e 1 (ν b) n (l.map (Value.int k)) := ho
          have hn : l.length = n := by simpa using ho.1
          subst hn
          refine ⟨by show cs = [givν ν _ bs.length]; rw [hν]; exact hcs, w, rfl, ?_⟩
          show w.ownsL w0.heap.size e 1 (givν ν _ bs.length) _ _
          rw [hν]
          refine ⟨ho.1, ?_⟩
          have hlo := hR.lo b
          rw [hbx] at hlo
          rcases ho.2 with hn | ⟨g, cap, cur, hv, _, rest⟩
          · exact .inl hn
          · refine .inr ⟨g, cap, cur, hv, ?_, rest⟩
            rcases hlo g (by show (ν b).ownBlock = some g; rw [show ν b = _ from hv]; rfl) with h1 | h1
            · exact h1
            · exact h1.elim
      · cases h
    · cases h
  all_goals first
    | (cases h; done)
    | (simp only [Option.some.injEq, Prod.mk.injEq] at h
       obtain ⟨rfl, rfl⟩ := h
       exact ⟨hb, ⟨[], by simp⟩, fun y => hp⟩)

theorem givePs_sound {w0 : World} {σ : Loc} {ν : Nat → Value} {S : St D.τ} {w : World} (hR : RR D (noM w0) w0 σ ν S w) : ∀ {ps qs : List (Part D.τ)} {bs b1 : List Nat} {cs : List Value},
    givePs D S bs ps = some (qs, b1) → GivOK S bs → PartsRel D (S.env D (noM w0) w0 σ ν) ps cs →
    GivOK S b1 ∧ (∃ x, b1 = bs ++ x) ∧ ∀ y, PartsRel D (renv w0 w (givν ν (b1 ++ y))) qs cs
  | [], qs, bs, b1, cs, h, hb, hp => by
    simp only [givePs, Option.some.injEq, Prod.mk.injEq] at h
    obtain ⟨rfl, rfl⟩ := h
    exact ⟨hb, ⟨[], by simp⟩, fun _ => hp⟩
  | p :: ps, qs, bs, b1, cs, h, hb, hp => by
    simp only [givePs] at h
    obtain ⟨c1, c2, rfl, hp1, hp2⟩ := hp
    cases h1 : giveP D S bs p with
    | none => simp [h1] at h
    | some x =>
      obtain ⟨q, b2⟩ := x
      simp only [h1] at h
      cases h2 : givePs D S b2 ps with
      | none => simp [h2] at h
      | some x =>
        obtain ⟨qs', b3⟩ := x
        simp only [h2, Option.some.injEq, Prod.mk.injEq] at h
        obtain ⟨rfl, rfl⟩ := h
        obtain ⟨g1, ⟨x1, e1⟩, r1⟩ := giveP_sound hR h1 hb hp1
        obtain ⟨g2, ⟨x2, e2⟩, r2⟩ := givePs_sound hR h2 g1 hp2
        refine ⟨g2, ⟨x1 ++ x2, by rw [e2, e1, List.append_assoc]⟩, fun y => ⟨c1, c2, rfl, ?_, r2 y⟩⟩
        rw [e2, List.append_assoc]
        exact r1 _

theorem give0_sound {w0 : World} {σ : Loc} {ν : Nat → Value} {S : St D.τ} {w : World} (hR : RR D (noM w0) w0 σ ν S w) {bs b1 : List Nat} {a q : A0 D.τ} {v : Value}
    (h : give0 D S bs a = some (q, b1)) (hb : GivOK S bs) (ha : A0Rel D (S.env D (noM w0) w0 σ ν) a v) :
    GivOK S b1 ∧ (∃ x, b1 = bs ++ x) ∧ ∀ y, A0Rel D (renv w0 w (givν ν (b1 ++ y))) q v := by
  cases a with
  | one p =>
    simp only [give0] at h
    cases h1 : giveP D S bs p with
    | none => simp [h1] at h
    | some x =>
      obtain ⟨q', b2⟩ := x
      simp only [h1, Option.some.injEq, Prod.mk.injEq] at h
      obtain ⟨rfl, rfl⟩ := h
      obtain ⟨g, e, r⟩ := giveP_sound hR h1 hb ha.2
      exact ⟨g, e, fun y => ⟨ha.1, r y⟩⟩
  | agg ps =>
    simp only [give0] at h
    obtain ⟨cs, rfl, hp⟩ := ha
    cases h1 : givePs D S bs ps with
    | none => simp [h1] at h
    | some x =>
      obtain ⟨q', b2⟩ := x
      simp only [h1, Option.some.injEq, Prod.mk.injEq] at h
      obtain ⟨rfl, rfl⟩ := h
      obtain ⟨g, e, r⟩ := givePs_sound hR h1 hb hp
      exact ⟨g, e, fun y => ⟨cs, rfl, r y⟩⟩

theorem give0s_sound {w0 : World} {σ : Loc} {ν : Nat → Value} {S : St D.τ} {w : World} (hR : RR D (noM w0) w0 σ ν S w) : ∀ {as qs : List (A0 D.τ)} {bs b1 : List Nat} {vs : List Value},
    give0s D S bs as = some (qs, b1) → GivOK S bs → A0sRel D (S.env D (noM w0) w0 σ ν) as vs →
    GivOK S b1 ∧ (∃ x, b1 = bs ++ x) ∧ ∀ y, A0sRel D (renv w0 w (givν ν (b1 ++ y))) qs vs
  | [], qs, bs, b1, cs, h, hb, hp => by
    simp only [give0s, Option.some.injEq, Prod.mk.injEq] at h
    obtain ⟨rfl, rfl⟩ := h
    exact ⟨hb, ⟨[], by simp⟩, fun _ => hp⟩
  | p :: ps, qs, bs, b1, cs, h, hb, hp => by
    simp only [give0s] at h
    obtain ⟨v, us, rfl, hp1, hp2⟩ := hp
    cases h1 : give0 D S bs p with
    | none => simp [h1] at h
    | some x =>
      obtain ⟨q, b2⟩ := x
      simp only [h1] at h
      cases h2 : give0s D S b2 ps with
      | none => simp [h2] at h
      | some x =>
        obtain ⟨qs', b3⟩ := x
        simp only [h2, Option.some.injEq, Prod.mk.injEq] at h
        obtain ⟨rfl, rfl⟩ := h
        obtain ⟨g1, ⟨x1, e1⟩, r1⟩ := give0_sound hR h1 hb hp1
        obtain ⟨g2, ⟨x2, e2⟩, r2⟩ := give0s_sound hR h2 g1 hp2
        refine ⟨g2, ⟨x1 ++ x2, by rw [e2, e1, List.append_assoc]⟩, fun y => ⟨v, us, rfl, ?_, r2 y⟩⟩
        rw [e2, List.append_assoc]
        exact r1 _

theorem givν_disj {w0 : World} {σ : Loc} {ν : Nat → Value} {S : St D.τ} {w : World} (hR : RR D (noM w0) w0 σ ν S w) {bs : List Nat} (hb : GivOK S bs) :
    ∀ i j g, i ≠ j → (givν ν bs i).ownBlock = some g → (givν ν bs j).ownBlock = some g → False := by
  intro i j g hne hi hj
  have key : ∀ i, (givν ν bs i).ownBlock = some g → ∃ b, bs[i]? = some b ∧ (ν b).ownBlock = some g := by
    intro i hi
    cases hq : bs[i]? with
    | none => simp [givν, hq, undef, Value.ownBlock] at hi
    | some b => exact ⟨b, rfl, by simpa [givν, hq] using hi⟩
  obtain ⟨b, hbi, h1⟩ := key i hi
  obtain ⟨c, hcj, h2⟩ := key j hj
  have hbc : b ≠ c := by
    intro e
    subst e
    obtain ⟨li, ei⟩ := List.getElem?_eq_some_iff.1 hbi
    obtain ⟨lj, ej⟩ := List.getElem?_eq_some_iff.1 hcj
    have hp := List.pairwise_iff_getElem.1 hb.1
    rcases Nat.lt_or_gt_of_ne hne with hlt | hlt
    · exact hp i j li lj hlt (ei.trans ej.symm)
    · exact hp j i lj li hlt (ej.trans ei.symm)
  obtain ⟨e, k, l, eb⟩ := hb.2 b (List.mem_of_getElem? hbi)
  obtain ⟨e', k', l', ec⟩ := hb.2 c (List.mem_of_getElem? hcj)
  refine hR.disj b c g hbc ?_ ?_
  · rw [eb]; exact h1
  · rw [ec]; exact h2

theorem cellRes_rel {M : Mem} {w0 : World} {σ : Loc} {ν : Nat → Value} {S : St D.τ} {w : World} {a : Act} (hR : RR D M w0 σ ν S w) (hA : RA D M w0 σ ν S a) {t : Nat} {ty : TypeId} {x : A0 D.τ} {c : List Prop}
    (h : cellRes P D S t ty = some (x, c)) (hc : ∀ p ∈ c, p) : ∃ v, (do loadVar ty (← asAddr (a.tmps.getD t undef)) : Sem Value).run P w = .ok v w ∧ A0Rel D (S.env D M w0 σ ν) x v := by
  unfold cellRes at h
  split at h
  · cases h
  rename_i n hsz
  split at h
  · rename_i b off hsl
    obtain ⟨hone, hal, hv⟩ := hA.slots _ _ hsl
    simp only [List.cons.injEq, and_true] at hv
    have hv' : a.tmps.getD t undef = .pointer (some ⟨σ b, off, none⟩) := hv
    have hb := hR.boxes b
    have hrun : ∀ {u : Value}, (loadVar ty ⟨σ b, off, none⟩).run P w = .ok u w → (do loadVar ty (← asAddr (a.tmps.getD t undef)) : Sem Value).run P w = .ok u w := by
      intro u hu
      rw [hv']
      simp [asAddr, hu]
    split at h
    · rename_i ty' k il hbx
      rw [hbx] at hb
      obtain ⟨cs, hg, hp⟩ := hb
      have hg' : w.heap[σ b]? = some (.cells cs ty' (0, 0)) := hg
      obtain ⟨c1, c2, e, hp1, hp2⟩ := hp
      cases hp2
      simp only [List.append_nil, PartRel] at e hp1
      subst hp1
      cases hbb : (aggB P ty && Nat.beq off 0) <;> simp only [hbb, cond_true, cond_false] at h
      · cases h
      · simp only [Bool.and_eq_true] at hbb
        simp only [Option.some.injEq, Prod.mk.injEq] at h
        obtain ⟨rfl, rfl⟩ := h
        have ho' : off = 0 := Nat.eq_of_beq_eq_true hbb.2
        subst ho'
        have hl : il.length = n := hc _ (by simp)
        have hcell := cells_at (w := w) hg' (c1 := []) (c2 := il.map (Value.int k)) (c3 := []) (by simpa using e)
        have hr := (run_loadVarB (P := P) (a := ⟨σ b, 0, none⟩) (cs := il.map (Value.int k)) (by rw [List.length_map, hl]; exact hsz) hcell).1 hbb.1
        exact ⟨_, hrun hr, _, rfl, _, [], by simp, rfl, rfl⟩
    · rename_i ty' ps hne hbx
      rw [hbx] at hb
      obtain ⟨cs, hg, hp⟩ := hb
      have hg' : w.heap[σ b]? = some (.cells cs ty' (0, 0)) := hg
      split at h
      · rename_i m1 m m2 hsp
        split at h
        · rename_i y hy
          simp only [Option.some.injEq, Prod.mk.injEq] at h
          obtain ⟨rfl, rfl⟩ := h
          obtain ⟨c1, c2, c3, he, hl1, hl2, hr1, hr2, hr3⟩ := splitP_sound hsp hp
          have hcell := cells_at (w := w) hg' he
          rw [hl1] at hcell
          have hr := run_loadVarB (P := P) (a := ⟨σ b, off, none⟩) (cs := c2) (by rw [hl2]; exact hsz) hcell
          rcases mkAV_rel hy hr2 with ⟨hg1, hy1⟩ | ⟨hg1, v, hv1, hy1⟩
          · exact ⟨_, hrun (hr.1 hg1), hy1⟩
          · exact ⟨_, hrun (hr.2 hg1 v hv1), hy1⟩
        · cases h
      · cases h
    · cases h
  · cases h

def resRun (tmps : Array Value) : ResultVar → Sem Value
  | .tmp t => pure (tmps.getD t undef)
  | .cell a t => do loadVar t (← asAddr (tmps.getD a undef))

theorem resList_rel {M : Mem} {w0 : World} {σ : Loc} {ν : Nat → Value} {S : St D.τ} {w : World} {a : Act} (hR : RR D M w0 σ ν S w) (hA : RA D M w0 σ ν S a) : ∀ {rs : List ResultVar} {as : List (A0 D.τ)} {c : List Prop}, resList P D S rs = some (as, c) → (∀ p ∈ c, p) →
    ∃ vs : List Value, (rs.mapM (resRun a.tmps)).run P w = .ok vs w ∧ A0sRel D (S.env D M w0 σ ν) as vs
  | [], as, c, h, hc => by
    simp only [resList, Option.some.injEq, Prod.mk.injEq] at h
    obtain ⟨rfl, rfl⟩ := h
    exact ⟨[], by simp, rfl⟩
  | r :: rs, as, c, h, hc => by
    simp only [resList] at h
    split at h
    · rename_i x c1 hx
      split at h
      · rename_i xs c2 hxs
        simp only [Option.some.injEq, Prod.mk.injEq] at h
        obtain ⟨rfl, rfl⟩ := h
        obtain ⟨vs, e, hr⟩ := resList_rel hR hA hxs (fun p hp => hc p (List.mem_append_right _ hp))
        have h1 : ∃ v, (resRun a.tmps r).run P w = .ok v w ∧ A0Rel D (S.env D M w0 σ ν) x v := by
          unfold resOne at hx
          split at hx
          · rename_i t
            split at hx
            · rename_i y hy
              simp only [Option.some.injEq, Prod.mk.injEq] at hx
              obtain ⟨rfl, rfl⟩ := hx
              exact ⟨_, by simp only [resRun, Sem.run_pure], hA.slots t _ hy⟩
            · cases hx
          · exact cellRes_rel hR hA hx (fun p hp => hc p (List.mem_append_left _ hp))
        obtain ⟨v, hv, hxv⟩ := h1
        exact ⟨v :: vs, by rw [List.mapM_cons]; simp only [Sem.run_bind, hv, e, Result.andThen_ok, Sem.run_pure], v, vs, rfl, hxv, hr⟩
      · cases h
    · cases h

def retOf : List Value → Value
  | [v] => v
  | vs => .tuple vs.toArray

theorem results_eq (fn : Func) (tmps : Array Value) : results fn tmps = (do let vs ← fn.results.mapM (resRun tmps); pure (if h : vs.size = 1 then vs[0] else .tuple vs)) := by
  unfold results
  congr 1

theorem run_mapRes {f : ResultVar → Sem Value} {rs : Array ResultVar} {w : World} {vs : List Value} (h : (rs.toList.mapM f).run P w = .ok vs w) :
    ((do let vs ← rs.mapM f; pure (if h : vs.size = 1 then vs[0] else .tuple vs)) : Sem Value).run P w = .ok (retOf vs) w := by
  obtain ⟨l⟩ := rs
  simp only [List.mapM_toArray, Sem.run_bind, Sem.run_map]
  rw [h]
  simp only [Result.andThen_ok, Sem.run_pure]
  rcases vs with _ | ⟨t, _ | ⟨t', ts⟩⟩ <;> simp [retOf]

theorem run_results {fn : Func} {tmps : Array Value} {w : World} {vs : List Value} (h : (fn.results.toList.mapM (resRun tmps)).run P w = .ok vs w) :
    (results fn tmps).run P w = .ok (retOf vs) w := by
  rw [results_eq]
  exact run_mapRes h

theorem fnRes_rel {w0 : World} {σ : Loc} {ν : Nat → Value} {S : St D.τ} {w : World} {a : Act} (hR : RR D (noM w0) w0 σ ν S w) (hA : RA D (noM w0) w0 σ ν S a) {fn : Func} {r : AV D.τ} {c : List Prop}
    (h : fnRes P D S fn.results.toList = some (r, c)) (hc : ∀ p ∈ c, p) : ∃ v, (results fn a.tmps).run P w = .ok v w ∧ RRes D w0 w r v := by
  unfold fnRes at h
  split at h
  · rename_i x c1 hx
    split at h
    · rename_i q b1 hq
      simp only [Option.some.injEq, Prod.mk.injEq] at h
      obtain ⟨rfl, rfl⟩ := h
      obtain ⟨vs, e, hr⟩ := resList_rel hR hA hx hc
      refine ⟨_, run_results e, ?_⟩
      obtain ⟨v, us, hv, h1, h2⟩ := hr
      cases h2
      subst hv
      obtain ⟨g, _, hrel⟩ := give0_sound hR hq ⟨List.nodup_nil, by simp⟩ h1
      have := hrel []
      rw [List.append_nil] at this
      exact ⟨givν ν b1, givν_disj hR g, this⟩
    · cases h
  · rename_i as c1 hne hx
    split at h
    · rename_i q b1 hq
      simp only [Option.some.injEq, Prod.mk.injEq] at h
      obtain ⟨rfl, rfl⟩ := h
      obtain ⟨vs, e, hr⟩ := resList_rel hR hA hx hc
      refine ⟨_, run_results e, ?_⟩
      obtain ⟨g, _, hrel⟩ := give0s_sound hR hq ⟨List.nodup_nil, by simp⟩ hr
      have h2 := hrel []
      rw [List.append_nil] at h2
      refine ⟨givν ν b1, givν_disj hR g, ?_⟩
      unfold retOf
      split
      · rcases as with _ | ⟨x, _ | ⟨y, as⟩⟩
        · cases hr
        · exact (hne _ rfl).elim
        · obtain ⟨_, _, e2, _, _, _, e3, _⟩ := hr
          subst e3
          simp at e2
      · exact ⟨_, rfl, h2⟩
    · cases h
  · cases h

theorem Kept.below {w w' : World} (h : Kept (noM w) w w') : Below w.heap.size w w' :=
  ⟨h.os, h.tape, h.output, h.size, fun k hk => h.block k hk fun h => h⟩

/-- A function does what comes out when it is carried out on descriptions. -/
theorem runF_calls {Γ : Gam D} (hΓ : GamOK P D Γ) (hm : P.follows .mixedOrders = true) {f : FuncId} {fn : Func} (hf : P.funcs[f]? = some fn) {fuel : Nat} {xs : List (A0 D.τ)} {ds : List (Dec D.τ)} {r : AV D.τ} {ps : List Prop}
    (h : runF P D Γ fuel fn xs ds = some (r, ps)) (hps : ∀ p ∈ ps, p) {w : World} {vs : List Value} (hG : GlobAt D w) (hx : A0sRel D (cenv w) xs vs) :
    Calls P f vs.toArray w fun e w' => ∃ v, e = .returned v ∧ RRes D w w' r v ∧ Below w.heap.size w w' := by
  unfold runF at h
  split at h
  · rename_i c hc
    cases hb : Nat.ble xs.length fn.ntmps <;> simp only [hb, cond_true, cond_false] at h
    · cases h
    have hlen : vs.length = xs.length := by
      clear h hb
      induction xs generalizing vs with
      | nil => cases hx; rfl
      | cons x xs ih => obtain ⟨v, us, rfl, _, h2⟩ := hx; simp [ih h2]
    have hn : vs.length ≤ fn.ntmps := by rw [hlen]; exact Nat.le_of_ble_eq_true hb
    refine calls_of_wp hf hc ?_
    split at h
    · cases h
    · rename_i e S qs ds1 n1 hne he
      split at h
      · rename_i r' qs' hr
        simp only [Option.some.injEq, Prod.mk.injEq] at h
        obtain ⟨rfl, rfl⟩ := h
        refine exec_sound hΓ hm fuel c 0 _ _ _ he (fun p hp => hps p (List.mem_append_left _ hp)) (noM w) w _ _ _ (start_R hG hx hn) (fun a' w' hR => ?_)
        obtain ⟨σ, ν, hR, hA⟩ := hR
        obtain ⟨v, hv, hres⟩ := fnRes_rel hR hA hr (fun p hp => hps p (List.mem_append_right _ hp))
        have hfin : a'.defers = [] ∧ ∃ v, (results fn a'.tmps).run P w' = .ok v w' ∧ ∃ v', Ending.returned v = .returned v' ∧ RRes D w w' r' v' ∧ Below w.heap.size w w' :=
          ⟨hA.defers, v, hv, v, rfl, hres, hR.kept.below⟩
        cases e
        · exact hfin
        · exact (hne _ rfl).elim
        · exact hfin
      · cases h
    · cases h
  · cases h

end
end Go.Abs

/- An evaluator over descriptions of values: loops. -/
import Derived.Test.YtjglidfemgodiaaDoorAbsE
namespace Go.Abs
open Go.RowKit

/-- A state written out: some slots, some boxes. -/
structure Sn (τ : Type) where
  slots : List (Nat × AV τ)
  boxes : List (Nat × BoxSt τ)
  nt : Nat
  np : Nat := 0

def assoc {α : Type} : List (Nat × α) → Nat → Option α
  | [], _ => none
  | (k, x) :: r, t => bif Nat.beq t k then some x else assoc r t

def orUn {τ : Type} : Option (BoxSt τ) → BoxSt τ
  | some s => s
  | none => .un

def Sn.st {τ : Type} (s : Sn τ) : St τ := ⟨assoc s.slots, fun b => orUn (assoc s.boxes b), s.nt, s.np⟩

section
variable (D : Dom)

/-- Which boxes of a state are meant by the boxes of a written one. Nothing is proved of this: it is checked. -/
def seekP (ρ : List (Nat × Nat)) : Part D.τ → Part D.τ → List (Nat × Nat)
  | .ref b _, .ref c _ => (b, c) :: ρ
  | .oref b _, .oref c _ => (b, c) :: ρ
  | .own b, .own c => (b, c) :: ρ
  | .view b _ _ _, .view c _ _ _ => (b, c) :: ρ
  | .aref b _ _ _, .aref c _ _ _ => (b, c) :: ρ
  | .av b _ _ _ _ _, .av c _ _ _ _ _ => (b, c) :: ρ
  | _, _ => ρ

def seekPs (ρ : List (Nat × Nat)) : List (Part D.τ) → List (Part D.τ) → List (Nat × Nat)
  | p :: ps, q :: qs => seekPs (seekP D ρ p q) ps qs
  | _, _ => ρ

def seek0 (ρ : List (Nat × Nat)) : A0 D.τ → A0 D.τ → List (Nat × Nat)
  | .one p, .one q => seekP D ρ p q
  | .agg ps, .agg qs => seekPs D ρ ps qs
  | _, _ => ρ

def seek0s (ρ : List (Nat × Nat)) : List (A0 D.τ) → List (A0 D.τ) → List (Nat × Nat)
  | p :: ps, q :: qs => seek0s (seek0 D ρ p q) ps qs
  | _, _ => ρ

def seekSlots (S : St D.τ) (ρ : List (Nat × Nat)) : List (Nat × AV D.τ) → List (Nat × Nat)
  | [] => ρ
  | (t, .v a) :: r => match S.slot t with
    | some (.v b) => seekSlots S (seek0 D ρ a b) r
    | _ => seekSlots S ρ r
  | (t, .tup as) :: r => match S.slot t with
    | some (.tup bs) => seekSlots S (seek0s D ρ as bs) r
    | _ => seekSlots S ρ r

def seekBoxes (S : St D.τ) (ρ : List (Nat × Nat)) : List (Nat × BoxSt D.τ) → List (Nat × Nat)
  | [] => ρ
  | (b, .fixed _ ps) :: r => match assoc ρ b with
    | some c => match S.box c with
      | .fixed _ qs => seekBoxes S (seekPs D ρ ps qs) r
      | _ => seekBoxes S ρ r
    | none => seekBoxes S ρ r
  | _ :: r => seekBoxes S ρ r

/-- Of cells so described another description holds too, wherever they lie. -/
def Imp (ps qs : List (Part D.τ)) : Prop := ∀ E F cs, PartsRel D E qs cs → PartsRel D F ps cs

def isKey (ρ : List (Nat × Nat)) (b c : Nat) : Bool :=
  match assoc ρ b with
  | some d => Nat.beq d c
  | none => false

/-- Cells of one word are cells of another. -/
def TagLe (s t : D.τ) : Prop := ∀ cs, D.rel s cs → D.rel t cs

/-- A written part (first) and one of a state: what must be so. -/
def fitP (ρ : List (Nat × Nat)) : Part D.τ → Part D.τ → Option (List Prop)
  | .int k true m, .int k' true n => if k = k' then (if m = n then some [] else none) else none
  | .int k false m, .int k' _ n => if k = k' then some [n = m] else none
  | .bool true b, .bool true c => bif b == c then some [] else none
  | .bool false b, .bool _ c => some [c = b]
  | .str s, .str t => some [t = s]
  | .nil, .nil => some []
  | .ref b o, .ref c o' => bif isKey ρ b c && Nat.beq o o' then some [] else none
  | .oref b i, .oref c i' => bif isKey ρ b c then some [i' = i] else none
  | .own b, .own c => bif isKey ρ b c then some [] else none
  | .view b o n cap, .view c o' n' cap' => bif isKey ρ b c && Nat.beq o o' then some [n' = n, cap' = cap] else none
  | .words k l, .words k' l' => if k = k' then some [l' = l] else none
  | .wref k l i, .wref k' l' i' => if k = k' then some [l' = l, i' = i] else none
  | .wordss k l, .wordss k' l' => if k = k' then some [l' = l] else none
  | .wsref k l i, .wsref k' l' i' => if k = k' then some [l' = l, i' = i] else none
  | .tag t, .tag t' => some [TagLe D t' t]
  | .ints k l, .ints k' l' => if k = k' then some [l' = l] else none
  | .tags s l, .tags s' l' => bif Nat.beq s s' then some [l' = l] else none
  | .pw k l, .pw k' l' => if k = k' then some [l' = l] else none
  | .words k l, .pw k' l' => if k = k' then some [l' = l] else none
  | .words _ l, .nil => some [[] = l]
  | .lws k l, .lws k' l' => if k = k' then some [l' = l] else none
  | .nilp, .nilp => some []
  | .aref b o n i, .aref c o' n' i' => bif isKey ρ b c && (Nat.beq o o' && Nat.beq n n') then some [i' = i] else none
  | .av b o m lo n cap, .av c o' m' lo' n' cap' => bif isKey ρ b c && (Nat.beq o o' && Nat.beq m m') then some [lo' = lo, n' = n, cap' = cap] else none
  | _, _ => none

def wide : Part D.τ → Bool
  | .ints _ _ => true
  | .tag _ => true
  | .tags _ _ => true
  | _ => false

def fitW (p : Part D.τ) (qs : List (Part D.τ)) : Option (List Prop) :=
  match p with
  | .ints k l => match allInts k qs with
    | some l' => some [l' = l]
    | none => some [Imp D [p] qs]
  | _ => some [Imp D [p] qs]

def fitPs (ρ : List (Nat × Nat)) : List (Part D.τ) → List (Part D.τ) → Option (List Prop)
  | [], [] => some []
  | .arr k n l :: ps, qs => match dropP D qs n with
    | some (m, r) => match allInts k m with
      | some l' => match fitPs ρ ps r with
        | some ys => some ((l' = l) :: ys)
        | none => none
      | none => none
    | none => none
  | p :: ps, qs => match wide D p && ps.isEmpty, qs with
    | true, [q] => match fitP D ρ p q with
      | some xs => some xs
      | none => fitW D p [q]
    | true, qs => fitW D p qs
    | false, q :: qs => match fitP D ρ p q with
      | some xs => match fitPs ρ ps qs with
        | some ys => some (xs ++ ys)
        | none => none
      | none => none
    | false, [] => none
  | [], _ :: _ => none

def fit0 (ρ : List (Nat × Nat)) : A0 D.τ → A0 D.τ → Option (List Prop)
  | .one p, .one q => fitP D ρ p q
  | .agg ps, .agg qs => fitPs D ρ ps qs
  | _, _ => none

def fit0s (ρ : List (Nat × Nat)) : List (A0 D.τ) → List (A0 D.τ) → Option (List Prop)
  | [], [] => some []
  | a :: as, b :: bs => match fit0 D ρ a b with
    | some xs => match fit0s ρ as bs with
      | some ys => some (xs ++ ys)
      | none => none
    | none => none
  | _, _ => none

def fitA (ρ : List (Nat × Nat)) : AV D.τ → AV D.τ → Option (List Prop)
  | .v a, .v b => fit0 D ρ a b
  | .tup as, .tup bs => fit0s D ρ as bs
  | _, _ => none

def fitSlots (ρ : List (Nat × Nat)) (S : St D.τ) : List (Nat × AV D.τ) → Option (List Prop)
  | [] => some []
  | (t, a) :: r => match S.slot t with
    | some b => match fitA D ρ a b with
      | some xs => match fitSlots ρ S r with
        | some ys => some (xs ++ ys)
        | none => none
      | none => none
    | none => none

def fitB (ρ : List (Nat × Nat)) : BoxSt D.τ → BoxSt D.τ → Option (List Prop)
  | .dead, _ => some []
  | .fixed ty ps, .fixed ty' qs => bif Nat.beq ty ty' then fitPs D ρ ps qs else none
  | .dyn e p, .dyn e' q => bif Nat.beq e e' then fitPs D ρ [p] [q] else none
  | _, _ => none

def fitBoxes (ρ : List (Nat × Nat)) (S : St D.τ) : List (Nat × BoxSt D.τ) → Option (List Prop)
  | [] => some []
  | (b, s) :: r => match assoc ρ b with
    | some c => match fitB D ρ s (S.box c) with
      | some xs => match fitBoxes ρ S r with
        | some ys => some (xs ++ ys)
        | none => none
      | none => none
    | none => none

/-- Each box that is meant is written out; no two are one. -/
def keysOk (s : Sn D.τ) (ρ : List (Nat × Nat)) : Bool :=
  ρ.all fun x => (match orUn (assoc s.boxes x.1) with | .un => false | _ => true) && ρ.all fun y => bif Nat.beq x.2 y.2 then Nat.beq x.1 y.1 else true

/-- The boxes that came from without keep their names. -/
def pins0 : Nat → List (Nat × Nat)
  | 0 => []
  | n + 1 => (n, n) :: pins0 n

def pinsOk (ρ : List (Nat × Nat)) : Nat → Bool
  | 0 => true
  | n + 1 => isKey ρ n n && pinsOk ρ n

def fitSt (S : St D.τ) (s : Sn D.τ) : Option (List Prop) :=
  let ρ := seekBoxes D S (seekSlots D S (pins0 S.np) s.slots) s.boxes
  bif (Nat.beq S.nt s.nt && Nat.beq S.np s.np) && (pinsOk ρ S.np && keysOk D s ρ) then
    match fitSlots D ρ S s.slots with
    | some xs => match fitBoxes D ρ S s.boxes with
      | some ys => some (xs ++ ys)
      | none => none
    | none => none
  else none

end
section
variable {P : Program} {D : Dom}

theorem assoc_mem {α : Type} : ∀ {l : List (Nat × α)} {t : Nat} {x : α}, assoc l t = some x → (t, x) ∈ l
  | [], t, x, h => by cases h
  | (k, y) :: r, t, x, h => by
    simp only [assoc] at h
    cases hb : Nat.beq t k <;> simp only [hb, cond_true, cond_false] at h
    · exact List.mem_cons_of_mem _ (assoc_mem h)
    · have := Nat.eq_of_beq_eq_true hb
      subst this
      simp only [Option.some.injEq] at h
      subst h
      exact List.mem_cons_self ..

def keyOf (ρ : List (Nat × Nat)) (b : Nat) : Nat := (assoc ρ b).getD 0

theorem isKey_spec {ρ : List (Nat × Nat)} {b c : Nat} (h : isKey ρ b c = true) : assoc ρ b = some c := by
  unfold isKey at h
  split at h
  · rename_i d hd
    rw [hd, Nat.eq_of_beq_eq_true h]
  · cases h

/-- How the boxes of a written state lie. -/
structure Ren (ρ : List (Nat × Nat)) (E F : Env) : Prop where
  al : ∀ b c, assoc ρ b = some c → F.al b
  σ : ∀ b c, assoc ρ b = some c → F.σ b = E.σ c
  ν : ∀ b c, assoc ρ b = some c → F.ν b = E.ν c
  w0 : F.w0 = E.w0
  M : F.M = E.M
  z : F.σ.zw = E.σ.zw ∧ F.σ.zm = E.σ.zm

def AllQ (ps : List Prop) : Prop := ∀ p ∈ ps, p

theorem pinsOk_spec {ρ : List (Nat × Nat)} : ∀ {n : Nat}, pinsOk ρ n = true → ∀ b, b < n → assoc ρ b = some b
  | 0, _, b, hb => by omega
  | n + 1, h, b, hb => by
    simp only [pinsOk, Bool.and_eq_true] at h
    by_cases e : b = n
    · subst e; exact isKey_spec h.1
    · exact pinsOk_spec h.2 b (by omega)

theorem Ren.base {ρ : List (Nat × Nat)} {E F : Env} (hr : Ren ρ E F) {M : Nat → Prop} {W : World} (h : Base E M W) : Base F M W := by
  rcases h with ⟨h1, h2⟩ | ⟨h1, h2⟩
  · exact .inl ⟨by rw [hr.M]; exact h1, by rw [hr.w0]; exact h2⟩
  · exact .inr ⟨by rw [hr.z.2]; exact h1, by rw [hr.z.1]; exact h2⟩

theorem fitP_sound {ρ : List (Nat × Nat)} {E F : Env} (hr : Ren ρ E F) {p q : Part D.τ} {xs : List Prop} {cs : List Value} (h : fitP D ρ p q = some xs) (hx : AllQ xs) (hq : PartRel D E q cs) : PartRel D F p cs := by
  unfold fitP at h
  split at h
  · split at h
    · split at h
      · rename_i hk hn; subst hk; subst hn; exact hq
      · cases h
    · cases h
  · split at h
    · rename_i hk
      simp only [Option.some.injEq] at h; subst h; subst hk
      have := hx _ (List.mem_cons_self ..)
      subst this; exact hq
    · cases h
  · rename_i b c
    cases hb : (b == c) <;> simp only [hb, cond_true, cond_false] at h
    · cases h
    · have := eq_of_beq hb
      subst this; exact hq
  · simp only [Option.some.injEq] at h; subst h
    have := hx _ (List.mem_cons_self ..)
    subst this; exact hq
  · simp only [Option.some.injEq] at h; subst h
    have := hx _ (List.mem_cons_self ..)
    subst this; exact hq
  · exact hq
  · rename_i b o c o'
    cases hb : (isKey ρ b c && Nat.beq o o') <;> simp only [hb, cond_true, cond_false] at h
    · cases h
    · simp only [Bool.and_eq_true] at hb
      have hk := isKey_spec hb.1
      have := Nat.eq_of_beq_eq_true hb.2
      subst this
      exact ⟨hr.al b c hk, by rw [hr.σ b c hk]; exact hq.2⟩
  · rename_i b i c i'
    cases hb : isKey ρ b c <;> simp only [hb, cond_true, cond_false] at h
    · cases h
    · simp only [Option.some.injEq] at h; subst h
      have hk := isKey_spec hb
      have := hx _ (List.mem_cons_self ..)
      subst this
      exact ⟨hr.al b c hk, by rw [hr.ν b c hk]; exact hq.2⟩
  · rename_i b c
    cases hb : isKey ρ b c <;> simp only [hb, cond_true, cond_false] at h
    · cases h
    · have hk := isKey_spec hb
      exact ⟨hr.al b c hk, by rw [hr.ν b c hk]; exact hq.2⟩
  · rename_i b o n cap c o' n' cap'
    cases hb : (isKey ρ b c && Nat.beq o o') <;> simp only [hb, cond_true, cond_false] at h
    · cases h
    · simp only [Option.some.injEq] at h; subst h
      simp only [Bool.and_eq_true] at hb
      have hk := isKey_spec hb.1
      have h1 := Nat.eq_of_beq_eq_true hb.2
      have h2 := hx _ (List.mem_cons_self ..)
      have h3 := hx (cap' = cap) (by simp)
      subst h1; subst h2; subst h3
      exact ⟨hr.al b c hk, by rw [hr.σ b c hk]; exact hq.2⟩
  · split at h
    · rename_i hk
      simp only [Option.some.injEq] at h; subst h; subst hk
      have := hx _ (List.mem_cons_self ..)
      subst this
      obtain ⟨v, e, M, W, hB, hs⟩ := hq
      exact ⟨v, e, M, W, hr.base hB, hs⟩
    · cases h
  · rename_i k l i k' l' i'
    split at h
    · rename_i hk
      simp only [Option.some.injEq] at h; subst h; subst hk
      have h1 := hx _ (List.mem_cons_self ..)
      have h2 := hx (i' = i) (by simp)
      subst h1; subst h2
      obtain ⟨ad, e, M, W, hB, q1, q2, q3⟩ := hq
      exact ⟨ad, e, M, W, hr.base hB, q1, q2, q3⟩
    · cases h
  · split at h
    · rename_i hk
      simp only [Option.some.injEq] at h; subst h; subst hk
      have := hx _ (List.mem_cons_self ..)
      subst this
      simp only [PartRel] at hq ⊢
      rw [hr.w0, hr.M]; exact hq
    · cases h
  · rename_i k l i k' l' i'
    split at h
    · rename_i hk
      simp only [Option.some.injEq] at h; subst h; subst hk
      have h1 := hx _ (List.mem_cons_self ..)
      have h2 := hx (i' = i) (by simp)
      subst h1; subst h2
      simp only [PartRel] at hq ⊢
      rw [hr.w0, hr.M]; exact hq
    · cases h
  · simp only [Option.some.injEq] at h; subst h
    exact hx _ (List.mem_cons_self ..) _ hq
  · split at h
    · rename_i hk
      simp only [Option.some.injEq] at h; subst h; subst hk
      have := hx _ (List.mem_cons_self ..)
      subst this; exact hq
    · cases h
  · rename_i s l s' l'
    cases hb : Nat.beq s s' <;> simp only [hb, cond_true, cond_false] at h
    · cases h
    · simp only [Option.some.injEq] at h; subst h
      have h1 := Nat.eq_of_beq_eq_true hb
      have h2 := hx _ (List.mem_cons_self ..)
      subst h1; subst h2; exact hq
  · split at h
    · rename_i hk
      simp only [Option.some.injEq] at h; subst h; subst hk
      have := hx _ (List.mem_cons_self ..)
      subst this
      obtain ⟨v, e, hs⟩ := hq
      exact ⟨v, e, by rw [hr.z.1, hr.z.2]; exact hs⟩
    · cases h
  · split at h
    · rename_i hk
      simp only [Option.some.injEq] at h; subst h; subst hk
      have := hx _ (List.mem_cons_self ..)
      subst this
      obtain ⟨v, e, hs⟩ := hq
      exact ⟨v, e, _, _, hr.base (.inr ⟨rfl, rfl⟩), hs⟩
    · cases h
  · simp only [Option.some.injEq] at h; subst h
    have := hx _ (List.mem_cons_self ..)
    subst this
    have hq' : cs = [Value.slice none 0 0] := hq
    exact ⟨_, hq', F.M, F.w0, .inl ⟨rfl, rfl⟩, none, 0, rfl, Nat.le_refl _, Nat.zero_le _, fun _ => rfl, (fun i hi => by cases hi)⟩
  · split at h
    · rename_i hk
      simp only [Option.some.injEq] at h; subst h; subst hk
      have := hx _ (List.mem_cons_self ..)
      subst this
      refine ⟨hq.1, fun i u hu => ?_⟩
      obtain ⟨M, W, hB, hs⟩ := hq.2 i u hu
      exact ⟨M, W, hr.base hB, hs⟩
    · cases h
  · exact hq
  · rename_i b o n i c o' n' i'
    cases hb : (isKey ρ b c && (Nat.beq o o' && Nat.beq n n')) <;> simp only [hb, cond_true, cond_false] at h
    · cases h
    · simp only [Option.some.injEq] at h; subst h
      simp only [Bool.and_eq_true] at hb
      have hk := isKey_spec hb.1
      have h1 := Nat.eq_of_beq_eq_true hb.2.1
      have h2 := Nat.eq_of_beq_eq_true hb.2.2
      have h3 := hx _ (List.mem_cons_self ..)
      subst h1; subst h2; subst h3
      exact ⟨hr.al b c hk, by rw [hr.σ b c hk]; exact hq.2⟩
  · rename_i b o m lo n cap c o' m' lo' n' cap'
    cases hb : (isKey ρ b c && (Nat.beq o o' && Nat.beq m m')) <;> simp only [hb, cond_true, cond_false] at h
    · cases h
    · simp only [Option.some.injEq] at h; subst h
      simp only [Bool.and_eq_true] at hb
      have hk := isKey_spec hb.1
      have h1 := Nat.eq_of_beq_eq_true hb.2.1
      have h2 := Nat.eq_of_beq_eq_true hb.2.2
      have h3 := hx _ (List.mem_cons_self ..)
      have h4 := hx (n' = n) (by simp)
      have h5 := hx (cap' = cap) (by simp)
      subst h1; subst h2; subst h3; subst h4; subst h5
      exact ⟨hr.al b c hk, by rw [hr.σ b c hk]; exact hq.2⟩
  · cases h

theorem AllQ.append {xs ys : List Prop} (h : AllQ (xs ++ ys)) : AllQ xs ∧ AllQ ys :=
  ⟨fun p hp => h p (List.mem_append_left _ hp), fun p hp => h p (List.mem_append_right _ hp)⟩

theorem fitW_sound {E F : Env} {p : Part D.τ} {qs : List (Part D.τ)} {xs : List Prop} {cs : List Value} (h : fitW D p qs = some xs) (hx : AllQ xs) (hq : PartsRel D E qs cs) : PartsRel D F [p] cs := by
  unfold fitW at h
  split at h
  · split at h
    · rename_i l' hl
      simp only [Option.some.injEq] at h; subst h
      have := hx _ (List.mem_cons_self ..)
      subst this
      have := allInts_rel hl hq
      exact ⟨cs, [], by simp, this, rfl⟩
    · simp only [Option.some.injEq] at h; subst h
      exact hx _ (List.mem_cons_self ..) E F cs hq
  · simp only [Option.some.injEq] at h; subst h
    exact hx _ (List.mem_cons_self ..) E F cs hq

theorem fitPs_sound {ρ : List (Nat × Nat)} {E F : Env} (hr : Ren ρ E F) : ∀ {ps qs : List (Part D.τ)} {xs : List Prop} {cs : List Value}, fitPs D ρ ps qs = some xs → AllQ xs → PartsRel D E qs cs → PartsRel D F ps cs
  | [], [], _, _, _, _, hq => hq
  | [], _ :: _, _, _, h, _, _ => by cases h
  | p :: ps, qs, xs, cs, h, hx, hq => by
    unfold fitPs at h
    split at h
    · exact absurd ‹p :: ps = []› (by simp)
    · rename_i k n l ps' he
      simp only [List.cons.injEq] at he
      obtain ⟨rfl, rfl⟩ := he
      split at h
      · rename_i m r hd
        split at h
        · rename_i l' hl'
          split at h
          · rename_i ys hys
            simp only [Option.some.injEq] at h; subst h
            obtain ⟨c1, c2, rfl, hl1, q1, q2⟩ := dropP_sound hd hq
            have h1 := hx _ (List.mem_cons_self ..)
            subst h1
            have hc := allInts_rel hl' q1
            exact ⟨c1, c2, rfl, ⟨by rw [← hl1, hc]; simp, hc⟩, fitPs_sound hr hys (fun p hp => hx p (List.mem_cons_of_mem _ hp)) q2⟩
          · cases h
        · cases h
      · cases h
    case h_4 => exact absurd ‹p :: ps = []› (by simp)
    rename_i p' ps' _ he
    simp only [List.cons.injEq] at he
    obtain ⟨rfl, rfl⟩ := he
    split at h
    · rename_i q hw
      simp only [Bool.and_eq_true, List.isEmpty_iff] at hw
      obtain ⟨_, rfl⟩ := hw
      split at h
      · rename_i ys hys
        simp only [Option.some.injEq] at h; subst h
        obtain ⟨c1, c2, rfl, q1, q2⟩ := hq
        exact ⟨c1, c2, rfl, fitP_sound hr hys hx q1, q2⟩
      · exact fitW_sound h hx hq
    · rename_i hw _
      simp only [Bool.and_eq_true, List.isEmpty_iff] at hw
      obtain ⟨_, rfl⟩ := hw
      exact fitW_sound h hx hq
    · rename_i q qs'
      split at h
      · rename_i x1 h1
        split at h
        · rename_i x2 h2
          simp only [Option.some.injEq] at h
          subst h
          obtain ⟨c1, c2, rfl, q1, q2⟩ := hq
          exact ⟨c1, c2, rfl, fitP_sound hr h1 hx.append.1 q1, fitPs_sound hr h2 hx.append.2 q2⟩
        · cases h
      · cases h
    · cases h

theorem fit0_sound {ρ : List (Nat × Nat)} {E F : Env} (hr : Ren ρ E F) {a b : A0 D.τ} {xs : List Prop} {v : Value} (h : fit0 D ρ a b = some xs) (hx : AllQ xs) (hb : A0Rel D E b v) : A0Rel D F a v := by
  unfold fit0 at h
  split at h
  · exact ⟨hb.1, fitP_sound hr h hx hb.2⟩
  · obtain ⟨cs, e, hp⟩ := hb
    exact ⟨cs, e, fitPs_sound hr h hx hp⟩
  · cases h

theorem fit0s_sound {ρ : List (Nat × Nat)} {E F : Env} (hr : Ren ρ E F) : ∀ {as bs : List (A0 D.τ)} {xs : List Prop} {vs : List Value}, fit0s D ρ as bs = some xs → AllQ xs → A0sRel D E bs vs → A0sRel D F as vs
  | [], [], _, _, _, _, hb => hb
  | [], _ :: _, _, _, h, _, _ => by cases h
  | _ :: _, [], _, _, h, _, _ => by cases h
  | a :: as, b :: bs, xs, vs, h, hx, ⟨v, us, e, h1, h2⟩ => by
    simp only [fit0s] at h
    split at h
    · rename_i x1 q1
      split at h
      · rename_i x2 q2
        simp only [Option.some.injEq] at h; subst h
        exact ⟨v, us, e, fit0_sound hr q1 hx.append.1 h1, fit0s_sound hr q2 hx.append.2 h2⟩
      · cases h
    · cases h

theorem fitA_sound {ρ : List (Nat × Nat)} {E F : Env} (hr : Ren ρ E F) {a b : AV D.τ} {xs : List Prop} {v : Value} (h : fitA D ρ a b = some xs) (hx : AllQ xs) (hb : AVRel D E b v) : AVRel D F a v := by
  unfold fitA at h
  split at h
  · exact fit0_sound hr h hx hb
  · obtain ⟨vs, e, hv⟩ := hb
    exact ⟨vs, e, fit0s_sound hr h hx hv⟩
  · cases h

theorem fitSlots_mem {ρ : List (Nat × Nat)} {S : St D.τ} : ∀ {l : List (Nat × AV D.τ)} {xs : List Prop}, fitSlots D ρ S l = some xs → AllQ xs → ∀ x ∈ l, ∃ b ys, S.slot x.1 = some b ∧ fitA D ρ x.2 b = some ys ∧ AllQ ys
  | [], _, _, _ => fun x h => by cases h
  | (t, a) :: r, xs, h, hx => by
    simp only [fitSlots] at h
    split at h
    · rename_i b hb
      split at h
      · rename_i x1 h1
        split at h
        · rename_i x2 h2
          simp only [Option.some.injEq] at h
          subst h
          intro x hm
          rcases List.mem_cons.1 hm with rfl | hm
          · exact ⟨b, x1, hb, h1, hx.append.1⟩
          · exact fitSlots_mem h2 hx.append.2 x hm
        · cases h
      · cases h
    · cases h

theorem fitBoxes_mem {ρ : List (Nat × Nat)} {S : St D.τ} : ∀ {l : List (Nat × BoxSt D.τ)} {xs : List Prop}, fitBoxes D ρ S l = some xs → AllQ xs → ∀ x ∈ l, ∃ c ys, assoc ρ x.1 = some c ∧ fitB D ρ x.2 (S.box c) = some ys ∧ AllQ ys
  | [], _, _, _ => fun x h => by cases h
  | (t, a) :: r, xs, h, hx => by
    simp only [fitBoxes] at h
    split at h
    · rename_i c hc
      split at h
      · rename_i x1 h1
        split at h
        · rename_i x2 h2
          simp only [Option.some.injEq] at h
          subst h
          intro x hm
          rcases List.mem_cons.1 hm with rfl | hm
          · exact ⟨c, x1, hc, h1, hx.append.1⟩
          · exact fitBoxes_mem h2 hx.append.2 x hm
        · cases h
      · cases h
    · cases h

/-- What fits a written state is as it says. -/
theorem fitSt_sound {S : St D.τ} {s : Sn D.τ} {xs : List Prop} (h : fitSt D S s = some xs) (hx : AllQ xs) {M : Mem} {w0 : World} {a : Act} {w : World} (hR : R D M w0 S a w) : R D M w0 s.st a w := by
  unfold fitSt at h
  generalize seekBoxes D S (seekSlots D S (pins0 S.np) s.slots) s.boxes = ρ at h
  simp only at h
  cases hb : ((Nat.beq S.nt s.nt && Nat.beq S.np s.np) && (pinsOk ρ S.np && keysOk D s ρ)) <;> simp only [hb, cond_true, cond_false] at h
  · cases h
  simp only [Bool.and_eq_true] at hb
  obtain ⟨⟨hnt, hnp⟩, hpk, hk⟩ := hb
  have hnt := Nat.eq_of_beq_eq_true hnt
  have hnp := Nat.eq_of_beq_eq_true hnp
  have hpin := pinsOk_spec hpk
  split at h
  · rename_i x1 h1
    split at h
    · rename_i x2 h2
      simp only [Option.some.injEq] at h
      subst h
      obtain ⟨σ, ν, hRR, hA⟩ := hR
      have hkey : ∀ b c, assoc ρ b = some c → (s.st.box b).al ∧ ∀ b' c', assoc ρ b' = some c' → c = c' → b = b' := by
        intro b c hbc
        have hm := List.all_eq_true.1 hk _ (assoc_mem hbc)
        simp only [Bool.and_eq_true] at hm
        obtain ⟨hm1, hm2⟩ := hm
        refine ⟨?_, fun b' c' hbc' e => ?_⟩
        · show (orUn (assoc s.boxes b)).al
          revert hm1
          cases orUn (assoc s.boxes b) <;> intro hm1 <;> first | trivial | cases hm1
        · have := List.all_eq_true.1 hm2 _ (assoc_mem hbc')
          simp only [e, Nat.beq_refl, cond_true] at this
          exact Nat.eq_of_beq_eq_true this
      have hren : Ren ρ (S.env D M w0 σ ν) (s.st.env D M w0 ⟨fun b => σ (keyOf ρ b), σ.zw, σ.zm⟩ (fun b => ν (keyOf ρ b))) := by
        refine ⟨fun b c hbc => (hkey b c hbc).1, fun b c hbc => ?_, fun b c hbc => ?_, rfl, rfl, rfl, rfl⟩
        · show σ (keyOf ρ b) = σ c
          rw [keyOf, hbc]; rfl
        · show ν (keyOf ρ b) = ν c
          rw [keyOf, hbc]; rfl
      have hbox : ∀ b, s.st.box b = .un ∨ ∃ c ys, assoc ρ b = some c ∧ fitB D ρ (s.st.box b) (S.box c) = some ys ∧ AllQ ys := by
        intro b
        show orUn (assoc s.boxes b) = .un ∨ ∃ c ys, assoc ρ b = some c ∧ fitB D ρ (orUn (assoc s.boxes b)) (S.box c) = some ys ∧ AllQ ys
        cases hq : assoc s.boxes b with
        | none => exact .inl rfl
        | some t => exact .inr (fitBoxes_mem h2 hx.append.2 _ (assoc_mem hq))
      have hblk : ∀ b g, blk D (s.st.env D M w0 ⟨fun b => σ (keyOf ρ b), σ.zw, σ.zm⟩ (fun b => ν (keyOf ρ b))) b (s.st.box b) = some g → ∃ c, assoc ρ b = some c ∧ blk D (S.env D M w0 σ ν) c (S.box c) = some g := by
        intro b g hg
        rcases hbox b with hun | ⟨c, ys, hc, hf, _⟩
        · rw [hun] at hg; cases hg
        · refine ⟨c, hc, ?_⟩
          have e1 := hren.σ b c hc
          have e2 := hren.ν b c hc
          unfold fitB at hf
          split at hf
          · rename_i he; rw [he] at hg; cases hg
          · rename_i he he2
            rw [he] at hg
            rw [he2]
            simp only [blk] at hg ⊢
            rw [← e1]; exact hg
          · rename_i he he2
            rw [he] at hg
            rw [he2]
            simp only [blk] at hg ⊢
            rw [← e2]; exact hg
          · cases hf
      refine ⟨⟨fun b => σ (keyOf ρ b), σ.zw, σ.zm⟩, fun b => ν (keyOf ρ b), ⟨fun b => ?_, fun b b' g hne hg hg' => ?_, fun b g hg => ?_, hRR.kept, hRR.zk, fun b g hg => ?_, fun b hb => ?_, hRR.glob, hRR.z0, hRR.zn⟩, ⟨by rw [hA.size, hnt]; rfl, hA.defers, fun t av hav => ?_⟩⟩
      · rcases hbox b with hun | ⟨c, ys, hc, hf, hys⟩
        · rw [hun]; trivial
        · have hB := hRR.boxes c
          unfold fitB at hf
          split at hf
          · rename_i he; rw [he]; trivial
          · rename_i ty ps ty' qs he he2
            rw [he]
            rw [he2] at hB
            cases hty : Nat.beq ty ty' <;> simp only [hty, cond_true, cond_false] at hf
            · cases hf
            · have := Nat.eq_of_beq_eq_true hty
              subst this
              obtain ⟨cs, hg, hp⟩ := hB
              refine ⟨cs, ?_, fitPs_sound hren hf hys hp⟩
              rw [hren.σ b c hc]; exact hg
          · rename_i e p e' q he he2
            rw [he]
            rw [he2] at hB
            cases hty : Nat.beq e e' <;> simp only [hty, cond_true, cond_false] at hf
            · cases hf
            · have := Nat.eq_of_beq_eq_true hty
              subst this
              obtain ⟨n, xs, ho, hp, h1⟩ := hB
              have hq := fitPs_sound (cs := xs) hren hf hys ⟨xs, [], by simp, hp, rfl⟩
              obtain ⟨c1, c2, e1, q1, q2⟩ := hq
              cases q2
              simp only [List.append_nil] at e1
              subst e1
              refine ⟨n, xs, ?_, q1, ?_⟩
              · rw [hren.ν b c hc]; exact ho
              · rw [hren.ν b c hc]; exact h1
          · cases hf
      · obtain ⟨c, hc, hg1⟩ := hblk b g hg
        obtain ⟨c', hc', hg2⟩ := hblk b' g hg'
        exact hRR.disj c c' g (fun e => hne ((hkey b c hc).2 b' c' hc' e)) hg1 hg2
      · obtain ⟨c, hc, hg1⟩ := hblk b g hg
        exact hRR.lo c g hg1
      · obtain ⟨c, hc, hg1⟩ := hblk b g hg
        exact hRR.zd c g hg1
      · have hb' : b < S.np := by rw [hnp]; exact hb
        have hbb := hpin b hb'
        obtain ⟨p1, p2, _⟩ := hRR.pins b hb'
        have hkb : keyOf ρ b = b := by rw [keyOf, hbb]; rfl
        refine ⟨?_, ?_, (hkey b b hbb).1⟩
        · show σ (keyOf ρ b) = _
          rw [hkb]; exact p1
        · show ν (keyOf ρ b) = _
          rw [hkb]; exact p2
      · obtain ⟨b, ys, hb, hf, hys⟩ := fitSlots_mem h1 hx.append.1 _ (assoc_mem hav)
        exact fitA_sound hren hf hys (hA.slots t b hb)
    · cases h
  · cases h

/-- A loop with a number that sinks from round to round. -/
theorem loop_sinks {x : Code} {J : Nat → Act → World → Prop} {Q : Exit → Act → World → Prop} {a : Act} {w : World} {g : Nat} (h0 : J g a w)
    (hb : ∀ g a w, J g a w → x.wp P (fun e a' w' => match e with | .normal => ∃ g', g' < g ∧ J g' a' w' | .exit id => Q (.exit id) a' w' | .ret => Q .ret a' w' | _ => False) a w) : (Code.loop x).wp P Q a w := by
  have hleast : ∀ a w, (∃ g, J g a w) → ∃ g, J g a w ∧ ∀ g', J g' a w → g ≤ g' := by
    intro a w ⟨g, hg⟩
    induction g using Nat.strongRecOn with
    | _ g ihg =>
      by_cases hex : ∃ g', g' < g ∧ J g' a w
      · obtain ⟨g', h1, h2⟩ := hex
        exact ihg g' h1 h2
      · refine ⟨g, hg, fun g' h' => ?_⟩
        rcases Nat.lt_or_ge g' g with h1 | h1
        · exact (hex ⟨g', h1, h'⟩).elim
        · exact h1
  let μ : Act → World → Nat := fun a w => open Classical in if h : ∃ g, J g a w then Classical.choose (hleast a w h) else 0
  have hμ : ∀ a w, (∃ g, J g a w) → J (μ a w) a w ∧ ∀ g', J g' a w → μ a w ≤ g' := by
    intro a w h
    have e : μ a w = Classical.choose (hleast a w h) := dif_pos h
    rw [e]
    exact Classical.choose_spec (hleast a w h)
  refine wp_loop (fun a w => ∃ g, J g a w) μ ⟨g, h0⟩ (fun a w hI => ?_)
  have h1 := hb _ a w (hμ a w hI).1
  refine wp_mono h1 ?_
  intro e a' w' he
  cases e <;> simp only at he
  case normal =>
    obtain ⟨g', hlt, hJ⟩ := he
    exact ⟨⟨g', hJ⟩, by have := (hμ a' w' ⟨g', hJ⟩).2 g' hJ; omega⟩
  case exit => exact he
  case ret => exact he

def Ex.same : Ex → Ex → Bool
  | .normal, .normal => true
  | .exit a, .exit b => Nat.beq a b
  | .ret, .ret => true
  | _, _ => false

theorem Ex.same_eq {a b : Ex} (h : Ex.same a b = true) : a = b := by
  cases a <;> cases b <;> first | rfl | (cases h; done) | (have := Nat.eq_of_beq_eq_true h; subst this; rfl)

variable (P D) in
/-- From a state to a written one: what must hold for it. -/
def stepPs (Γ : Gam D) (fuel : Nat) (c : Code) (nid : Nat) (S : St D.τ) (ds : List (Dec D.τ)) (e : Ex) (s : Sn D.τ) : Option (List Prop) :=
  match exec P D Γ fuel c nid S ds with
  | some o => bif Ex.same o.e e then match fitSt D o.S s with
    | some qs => some (o.ps ++ qs)
    | none => none
    else none
  | none => none

variable (D) in
/-- What is said of a loop that begins in one written state and is left in another. -/
def loopL (s0 : Sn D.τ) (e : Ex) (s : Sn D.τ) (S : St D.τ) : Option (Ex × St D.τ × List Prop) :=
  match fitSt D S s0 with
  | some qs => some (e, s.st, qs)
  | none => none

theorem stepPs_sound {Γ : Gam D} (hΓ : GamOK P D Γ) (hm : P.follows .mixedOrders = true) {fuel : Nat} {c : Code} {nid : Nat} {S : St D.τ} {ds : List (Dec D.τ)} {e : Ex} {s : Sn D.τ} {ps : List Prop}
    (h : stepPs P D Γ fuel c nid S ds e s = some ps) (hps : AllQ ps) {M : Mem} {w0 : World} {a : Act} {w : World} {Q : Exit → Act → World → Prop} (hR : R D M w0 S a w)
    (hQ : ∀ a' w', R D M w0 s.st a' w' → Q e.out a' w') : c.wp P Q a w := by
  unfold stepPs at h
  split at h
  · rename_i o ho
    cases hb : Ex.same o.e e <;> simp only [hb, cond_true, cond_false] at h
    · cases h
    · have := Ex.same_eq hb
      subst this
      split at h
      · rename_i qs hq
        simp only [Option.some.injEq] at h
        subst h
        exact exec_sound hΓ hm fuel c nid S ds o ho hps.append.1 M w0 a w Q hR fun a' w' hR' => hQ a' w' (fitSt_sound hq hps.append.2 hR')
      · cases h
  · cases h

/-- A loop that goes from one written state to the next, and is left behind the last. -/
theorem sum_loop {Γ : Gam D} (hΓ : GamOK P D Γ) (hm : P.follows .mixedOrders = true) {c : Code} (I : Nat → Sn D.τ) (N : Nat) {e : Ex} {s : Sn D.τ} (he : Ex.same e .normal = false)
    (hs : ∀ k, k < N → ∃ fuel nid ds ps, stepPs P D Γ fuel c nid (I k).st ds .normal (I (k + 1)) = some ps ∧ AllQ ps)
    (hx : ∃ fuel nid ds ps, stepPs P D Γ fuel c nid (I N).st ds e s = some ps ∧ AllQ ps) : SumOK P D c (loopL D (I 0) e s) := by
  intro S e' S' ps hL hps M w0 a w Q hR hQ
  unfold loopL at hL
  split at hL
  · rename_i qs hq
    simp only [Option.some.injEq, Prod.mk.injEq] at hL
    obtain ⟨rfl, rfl, rfl⟩ := hL
    have hR0 := fitSt_sound hq hps hR
    refine loop_sinks (J := fun g a w => g ≤ N ∧ R D M w0 (I (N - g)).st a w) (g := N) ⟨Nat.le_refl _, by rw [Nat.sub_self]; exact hR0⟩ (fun g a w ⟨hg, hRg⟩ => ?_)
    cases g with
    | zero =>
      obtain ⟨fuel, nid, ds, ps, h1, h2⟩ := hx
      refine stepPs_sound hΓ hm h1 h2 hRg (fun a' w' hR' => ?_)
      have := hQ a' w' hR'
      cases e
      · cases he
      · exact this
      · exact this
    | succ g =>
      obtain ⟨fuel, nid, ds, ps, h1, h2⟩ := hs (N - (g + 1)) (by omega)
      refine stepPs_sound hΓ hm h1 h2 hRg (fun a' w' hR' => ?_)
      refine ⟨g, Nat.lt_succ_self _, by omega, ?_⟩
      rw [show N - (g + 1) + 1 = N - g from by omega] at hR'
      exact hR'
  · cases hL

/-- A function does what its description says, if it comes out when it is carried out on descriptions. -/
theorem fnOK_of {Γ : Gam D} (hΓ : GamOK P D Γ) (hm : P.follows .mixedOrders = true) {f : FuncId} {fn : Func} {F : FnD D} (hf : P.funcs[f]? = some fn)
    (hc : ∀ args w, (callFunc f args).run P w = .ok (.enter f args) w)
    (h : ∀ xs r ps, F xs = some (r, ps) → AllQ ps → ∃ xs' fuel ds r' qs, (∀ w vs, A0sRel D (cenv w) xs vs → A0sRel D (cenv w) xs' vs) ∧ runF P D Γ fuel fn xs' ds = some (r', qs) ∧ AllQ qs ∧
      ∀ E v, AVRel D E r' v → AVRel D E r v) : FnOK P D f F := by
  intro xs r ps hF hps w vs hG hx
  obtain ⟨xs', fuel, ds, r', qs, h1, h2, h3, h4⟩ := h xs r ps hF hps
  refine ⟨_, hc _ w, ?_⟩
  refine (runF_calls hΓ hm hf h2 h3 hG (h1 w vs hx)).mono ?_
  rintro e w' ⟨v, he, ⟨ν, hd, hr⟩, hb⟩
  exact ⟨v, he, ⟨ν, hd, h4 _ _ hr⟩, hb⟩

/-- Duties written out. -/
def AllP : Option (List Prop) → Prop
  | some ps => allC ps
  | none => False
where allC : List Prop → Prop
  | [] => True
  | [p] => p
  | p :: q :: ps => p ∧ allC (q :: ps)

theorem AllP.all : ∀ {ps : List Prop}, AllP.allC ps → AllQ ps
  | [], _ => fun p hp => by cases hp
  | [p], h => fun q hq => by rcases List.mem_cons.1 hq with rfl | hq; exact h; cases hq
  | p :: q :: ps, h => fun r hr => by
    rcases List.mem_cons.1 hr with rfl | hr
    · exact h.1
    · exact AllP.all h.2 r hr

theorem AllP.step {o : Option (List Prop)} (h : AllP o) : ∃ ps, o = some ps ∧ AllQ ps := by
  cases o with
  | none => exact h.elim
  | some ps => exact ⟨ps, rfl, AllP.all h⟩

end
end Go.Abs

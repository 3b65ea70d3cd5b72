/- An evaluator over descriptions of values: descriptions that are held against one another. -/
import Derived.Test.YtakigppkbolmnaaAbsV
namespace Go.Abs
open Go.RowKit
section
variable {P : Program} {D : Dom}

theorem assoc_mem {α : Type} : ∀ {l : List (Nat × α)} {t : Nat} {x : α}, assoc l t = some x → (t, x) ∈ l
  | [], t, x, h => by cases h
  | (k, y) :: r, t, x, h => by
    simp only [assoc] at h
    cases hb : Nat.beq t k <;> simp only [hb, cond_true, cond_false] at h
    · exact List.mem_cons_of_mem _ (assoc_mem h)
    · have := Nat.eq_of_beq_eq_true hb
      subst this
      simp only [Option.some.injEq] at h
      subst h
      exact List.mem_cons_self ..

def keyOf (ρ : List (Nat × Nat)) (b : Nat) : Nat := (assoc ρ b).getD 0

theorem isKey_spec {ρ : List (Nat × Nat)} {b c : Nat} (h : isKey ρ b c = true) : assoc ρ b = some c := by
  unfold isKey at h
  split at h
  · rename_i d hd
    rw [hd, Nat.eq_of_beq_eq_true h]
  · cases h

/-- How the boxes of a written state lie. -/
structure Ren (ρ : List (Nat × Nat)) (E F : Env) : Prop where
  al : ∀ b c, assoc ρ b = some c → F.al b
  σ : ∀ b c, assoc ρ b = some c → F.σ b = E.σ c
  ν : ∀ b c, assoc ρ b = some c → F.ν b = E.ν c
  φ : ∀ b c, assoc ρ b = some c → F.σ.φ b = E.σ.φ c
  nl : ∀ b, assoc ρ b = some (nilB + b) → F.ν b = .slice none 0 0
  w0 : F.w0 = E.w0
  M : F.M = E.M
  z : F.σ.zw = E.σ.zw ∧ F.σ.zm = E.σ.zm

def AllQ (ps : List Prop) : Prop := ∀ p ∈ ps, p

theorem Ren.base {ρ : List (Nat × Nat)} {E F : Env} (hr : Ren ρ E F) {M : Nat → Prop} {W : World} (h : Base E M W) : Base F M W := by
  rcases h with ⟨h1, h2⟩ | ⟨h1, h2⟩
  · exact .inl ⟨by rw [hr.M]; exact h1, by rw [hr.w0]; exact h2⟩
  · exact .inr ⟨by rw [hr.z.2]; exact h1, by rw [hr.z.1]; exact h2⟩

theorem Ren.le {ρ : List (Nat × Nat)} {E F : Env} (hr : Ren ρ E F) : E.σ.le F.σ := by
  rw [Loc.le, hr.z.1, hr.z.2]
  exact fun g hg => ⟨hg, rfl⟩

theorem keysL_sound {ρ : List (Nat × Nat)} {E F : Env} (hr : Ren ρ E F) : ∀ {bs cs : List Nat}, keysL ρ bs cs = true →
    (∀ b ∈ bs, F.al b) ∧ (bs.map fun b => Value.pointer (some ⟨F.σ.f b, 0, none⟩)) = cs.map fun b => Value.pointer (some ⟨E.σ.f b, 0, none⟩)
  | [], [], _ => ⟨(fun b h => by cases h), rfl⟩
  | [], _ :: _, h => by cases h
  | _ :: _, [], h => by cases h
  | b :: bs, c :: cs, h => by
    simp only [keysL, Bool.and_eq_true] at h
    have hk := isKey_spec h.1
    obtain ⟨q1, q2⟩ := keysL_sound hr h.2
    refine ⟨fun x hx => ?_, ?_⟩
    · rcases List.mem_cons.1 hx with rfl | hx
      · exact hr.al _ _ hk
      · exact q1 x hx
    · simp only [List.map_cons, q2]
      rw [show F.σ.f b = E.σ.f c from hr.σ _ _ hk]

theorem fitC_sound {ρ : List (Nat × Nat)} {E F : Env} (hr : Ren ρ E F) : ∀ {cs ds : List C1} {xs : List Prop} {vs : List Value}, fitC ρ cs ds = some xs → AllQ xs → C1sRel E ds vs → C1sRel F cs vs
  | [], [], _, _, _, _, h => h
  | .s x :: cs, .s y :: ds, xs, vs, e, hx, ⟨v, us, e1, h1, h2⟩ => by
    obtain ⟨r, hr', rfl⟩ := Option.map_eq_some_iff.1 e
    have : y = x := hx _ (List.mem_cons_self ..)
    subst this
    exact ⟨v, us, e1, h1, fitC_sound hr hr' (fun p hp => hx p (List.mem_cons_of_mem _ hp)) h2⟩
  | .i k m :: cs, .i k' n :: ds, xs, vs, e, hx, ⟨v, us, e1, h1, h2⟩ => by
    simp only [fitC] at e
    split at e
    · rename_i hk
      subst hk
      obtain ⟨r, hr', rfl⟩ := Option.map_eq_some_iff.1 e
      have : n = m := hx _ (List.mem_cons_self ..)
      subst this
      exact ⟨v, us, e1, h1, fitC_sound hr hr' (fun p hp => hx p (List.mem_cons_of_mem _ hp)) h2⟩
    · cases e
  | .o b :: cs, .o c :: ds, xs, vs, e, hx, ⟨v, us, e1, h1, h2⟩ => by
    simp only [fitC] at e
    cases hk : isKey ρ b c <;> simp only [hk, cond_true, cond_false] at e
    · cases e
    have hk := isKey_spec hk
    exact ⟨v, us, e1, ⟨hr.al _ _ hk, by rw [hr.ν _ _ hk]; exact h1.2.1, by rw [hr.ν _ _ hk]; exact h1.2.2⟩, fitC_sound hr e hx h2⟩
  | [], _ :: _, _, _, e, _, _ => by cases e
  | _ :: _, [], _, _, e, _, _ => by simp [fitC] at e
  | .s _ :: _, .i _ _ :: _, _, _, e, _, _ => by cases e
  | .s _ :: _, .o _ :: _, _, _, e, _, _ => by cases e
  | .i _ _ :: _, .s _ :: _, _, _, e, _, _ => by cases e
  | .i _ _ :: _, .o _ :: _, _, _, e, _, _ => by cases e
  | .o _ :: _, .s _ :: _, _, _, e, _, _ => by cases e
  | .o _ :: _, .i _ _ :: _, _, _, e, _, _ => by cases e

theorem fitP_sound {ρ : List (Nat × Nat)} {E F : Env} (hr : Ren ρ E F) {p q : Part D.τ} {xs : List Prop} {cs : List Value} (h : fitP D ρ p q = some xs) (hx : AllQ xs) (hq : PartRel D E q cs) : PartRel D F p cs := by
  unfold fitP at h
  split at h
  · split at h
    · split at h
      · rename_i hk hn; subst hk; subst hn; exact hq
      · cases h
    · cases h
  · split at h
    · rename_i hk
      simp only [Option.some.injEq] at h; subst h; subst hk
      have := hx _ (List.mem_cons_self ..)
      subst this; exact hq
    · cases h
  · split at h
    · rename_i hk
      simp only [Option.some.injEq] at h; subst h; subst hk
      have := hx _ (List.mem_cons_self ..)
      subst this; exact hq
    · cases h
  · rename_i b c
    cases hb : (b == c) <;> simp only [hb, cond_true, cond_false] at h
    · cases h
    · have := eq_of_beq hb
      subst this; exact hq
  · simp only [Option.some.injEq] at h; subst h
    have := hx _ (List.mem_cons_self ..)
    subst this; exact hq
  · simp only [Option.some.injEq] at h; subst h
    have := hx _ (List.mem_cons_self ..)
    subst this; exact hq
  · exact hq
  · rename_i b o c o'
    cases hb : (isKey ρ b c && Nat.beq o o') <;> simp only [hb, cond_true, cond_false] at h
    · cases h
    · simp only [Bool.and_eq_true] at hb
      have hk := isKey_spec hb.1
      have := Nat.eq_of_beq_eq_true hb.2
      subst this
      exact ⟨hr.al b c hk, by rw [hr.σ b c hk]; exact hq.2⟩
  · rename_i b i c i'
    cases hb : isKey ρ b c <;> simp only [hb, cond_true, cond_false] at h
    · cases h
    · simp only [Option.some.injEq] at h; subst h
      have hk := isKey_spec hb
      have := hx _ (List.mem_cons_self ..)
      subst this
      exact ⟨hr.al b c hk, by rw [hr.ν b c hk]; exact hq.2⟩
  · rename_i b c
    cases hb : isKey ρ b c <;> simp only [hb, cond_true, cond_false] at h
    · cases h
    · have hk := isKey_spec hb
      exact ⟨hr.al b c hk, by rw [hr.ν b c hk]; exact hq.2⟩
  · rename_i b
    cases hb : isKey ρ b (nilB + b) <;> simp only [hb, cond_true, cond_false] at h
    · cases h
    · have hk := isKey_spec hb
      have hq' : cs = [Value.slice none 0 0] := hq
      exact ⟨hr.al b _ hk, by rw [hr.nl b hk]; rfl, by rw [hr.nl b hk]; exact hq'⟩
  · rename_i b o n cap c o' n' cap'
    cases hb : (isKey ρ b c && Nat.beq o o') <;> simp only [hb, cond_true, cond_false] at h
    · cases h
    · simp only [Option.some.injEq] at h; subst h
      simp only [Bool.and_eq_true] at hb
      have hk := isKey_spec hb.1
      have h1 := Nat.eq_of_beq_eq_true hb.2
      have h2 := hx _ (List.mem_cons_self ..)
      have h3 := hx (cap' = cap) (by simp)
      subst h1; subst h2; subst h3
      exact ⟨hr.al b c hk, by rw [hr.σ b c hk]; exact hq.2⟩
  · split at h
    · rename_i hk
      simp only [Option.some.injEq] at h; subst h; subst hk
      have := hx _ (List.mem_cons_self ..)
      subst this
      obtain ⟨v, e, M, W, hB, hs⟩ := hq
      exact ⟨v, e, M, W, hr.base hB, hs⟩
    · cases h
  · rename_i k l i k' l' i'
    split at h
    · rename_i hk
      simp only [Option.some.injEq] at h; subst h; subst hk
      have h1 := hx _ (List.mem_cons_self ..)
      have h2 := hx (i' = i) (by simp)
      subst h1; subst h2
      obtain ⟨ad, e, M, W, hB, q1, q2, q3⟩ := hq
      exact ⟨ad, e, M, W, hr.base hB, q1, q2, q3⟩
    · cases h
  · split at h
    · rename_i hk
      simp only [Option.some.injEq] at h; subst h; subst hk
      have := hx _ (List.mem_cons_self ..)
      subst this
      simp only [PartRel] at hq ⊢
      rw [hr.w0, hr.M]; exact hq
    · cases h
  · rename_i k l i k' l' i'
    split at h
    · rename_i hk
      simp only [Option.some.injEq] at h; subst h; subst hk
      have h1 := hx _ (List.mem_cons_self ..)
      have h2 := hx (i' = i) (by simp)
      subst h1; subst h2
      simp only [PartRel] at hq ⊢
      rw [hr.w0, hr.M]; exact hq
    · cases h
  · simp only [Option.some.injEq] at h; subst h
    exact hx _ (List.mem_cons_self ..) _ hq
  · split at h
    · rename_i hk
      simp only [Option.some.injEq] at h; subst h; subst hk
      have := hx _ (List.mem_cons_self ..)
      subst this; exact hq
    · cases h
  · rename_i s l s' l'
    cases hb : Nat.beq s s' <;> simp only [hb, cond_true, cond_false] at h
    · cases h
    · simp only [Option.some.injEq] at h; subst h
      have h1 := Nat.eq_of_beq_eq_true hb
      have h2 := hx _ (List.mem_cons_self ..)
      subst h1; subst h2; exact hq
  · split at h
    · rename_i hk
      simp only [Option.some.injEq] at h; subst h; subst hk
      have := hx _ (List.mem_cons_self ..)
      subst this
      obtain ⟨v, e, hs⟩ := hq
      exact ⟨v, e, by rw [hr.z.1, hr.z.2]; exact hs⟩
    · cases h
  · split at h
    · rename_i hk
      simp only [Option.some.injEq] at h; subst h; subst hk
      have := hx _ (List.mem_cons_self ..)
      subst this
      obtain ⟨v, e, hs⟩ := hq
      exact ⟨v, e, _, _, hr.base (.inr ⟨rfl, rfl⟩), hs⟩
    · cases h
  · simp only [Option.some.injEq] at h; subst h
    have := hx _ (List.mem_cons_self ..)
    subst this
    have hq' : cs = [Value.slice none 0 0] := hq
    exact ⟨_, hq', F.M, F.w0, .inl ⟨rfl, rfl⟩, none, 0, rfl, Nat.le_refl _, Nat.zero_le _, fun _ => rfl, (fun i hi => by cases hi)⟩
  · rename_i sh ll sh' ll'
    cases hb : shEq sh sh' <;> simp only [hb, cond_true, cond_false] at h
    · cases h
    · simp only [Option.some.injEq] at h; subst h
      have h1 := shEq_eq hb
      have h2 := hx _ (List.mem_cons_self ..)
      subst h1; subst h2
      refine ⟨hq.1, fun i r hr' => (hq.2 i r hr').mono ?_⟩
      rw [Loc.le, hr.z.1, hr.z.2]
      exact fun g hg => ⟨hg, rfl⟩
  · rename_i sh ll sh' ll'
    cases hb : shEq sh sh' <;> simp only [hb, cond_true, cond_false] at h
    · cases h
    · simp only [Option.some.injEq] at h; subst h
      have h1 := shEq_eq hb
      have h2 := hx _ (List.mem_cons_self ..)
      subst h1; subst h2
      obtain ⟨v, e, hs⟩ := hq
      refine ⟨v, e, hs.mono ?_⟩
      rw [Loc.le, hr.z.1, hr.z.2]
      exact fun g hg => ⟨hg, rfl⟩
  · simp only [Option.some.injEq] at h; subst h
    have := hx _ (List.mem_cons_self ..)
    subst this
    have hq' : cs = [Value.slice none 0 0] := hq
    exact ⟨_, hq', none, 0, rfl, Nat.le_refl _, Nat.zero_le _, fun _ => rfl, (fun i r hr' => by cases hr')⟩
  · rename_i t b o t' c o'
    cases hb : (isKey ρ b c && (Nat.beq t t' && Nat.beq o o')) <;> simp only [hb, cond_true, cond_false] at h
    · cases h
    · simp only [Bool.and_eq_true] at hb
      have hk := isKey_spec hb.1
      have h1 := Nat.eq_of_beq_eq_true hb.2.1
      have h2 := Nat.eq_of_beq_eq_true hb.2.2
      subst h1; subst h2
      exact ⟨hr.al b c hk, by rw [hr.σ b c hk]; exact hq.2⟩
  · rename_i t sh r t' sh' r'
    cases hb : (Nat.beq t t' && shEq sh sh') <;> simp only [hb, cond_true, cond_false] at h
    · cases h
    · simp only [Option.some.injEq] at h; subst h
      simp only [Bool.and_eq_true] at hb
      have h1 := Nat.eq_of_beq_eq_true hb.1
      have h2 := shEq_eq hb.2
      have h3 := hx _ (List.mem_cons_self ..)
      subst h1; subst h2; subst h3
      obtain ⟨vs, e, hs⟩ := hq
      exact ⟨vs, e, hs.mono hr.le⟩
  · exact hq
  · exact hq
  · rename_i b c
    cases hb : isKey ρ b c <;> simp only [hb, cond_true, cond_false] at h
    · cases h
    · have hk := isKey_spec hb
      exact ⟨hr.al b c hk, by rw [hr.σ b c hk]; exact hq.2⟩
  · rename_i f bs f' cs'
    cases hb : (Nat.beq f f' && keysL ρ bs cs') <;> simp only [hb, cond_true, cond_false] at h
    · cases h
    · simp only [Bool.and_eq_true] at hb
      have h1 := Nat.eq_of_beq_eq_true hb.1
      subst h1
      obtain ⟨q1, q2⟩ := keysL_sound hr hb.2
      refine ⟨q1, ?_⟩
      rw [hq.2, cloV, cloV, q2]
  · rename_i sh n l sh' n' l'
    cases hb : (shEq sh sh' && Nat.beq n n') <;> simp only [hb, cond_true, cond_false] at h
    · cases h
    · simp only [Option.some.injEq] at h; subst h
      simp only [Bool.and_eq_true] at hb
      have h1 := shEq_eq hb.1
      have h2 := Nat.eq_of_beq_eq_true hb.2
      have h3 := hx _ (List.mem_cons_self ..)
      subst h1; subst h2; subst h3
      exact ⟨hq.1, hq.2.1, fun i v hv => (hq.2.2 i v hv).mono hr.le⟩
  · split at h
    · rename_i hk
      simp only [Option.some.injEq] at h; subst h; subst hk
      have := hx _ (List.mem_cons_self ..)
      subst this
      refine ⟨hq.1, fun i u hu => ?_⟩
      obtain ⟨M, W, hB, hs⟩ := hq.2 i u hu
      exact ⟨M, W, hr.base hB, hs⟩
    · cases h
  · exact hq
  · rename_i b o n i c o' n' i'
    cases hb : (isKey ρ b c && (Nat.beq o o' && Nat.beq n n')) <;> simp only [hb, cond_true, cond_false] at h
    · cases h
    · simp only [Option.some.injEq] at h; subst h
      simp only [Bool.and_eq_true] at hb
      have hk := isKey_spec hb.1
      have h1 := Nat.eq_of_beq_eq_true hb.2.1
      have h2 := Nat.eq_of_beq_eq_true hb.2.2
      have h3 := hx _ (List.mem_cons_self ..)
      subst h1; subst h2; subst h3
      exact ⟨hr.al b c hk, by rw [hr.σ b c hk]; exact hq.2⟩
  · rename_i b o m lo n cap c o' m' lo' n' cap'
    cases hb : (isKey ρ b c && (Nat.beq o o' && Nat.beq m m')) <;> simp only [hb, cond_true, cond_false] at h
    · cases h
    · simp only [Option.some.injEq] at h; subst h
      simp only [Bool.and_eq_true] at hb
      have hk := isKey_spec hb.1
      have h1 := Nat.eq_of_beq_eq_true hb.2.1
      have h2 := Nat.eq_of_beq_eq_true hb.2.2
      have h3 := hx _ (List.mem_cons_self ..)
      have h4 := hx (n' = n) (by simp)
      have h5 := hx (cap' = cap) (by simp)
      subst h1; subst h2; subst h3; subst h4; subst h5
      exact ⟨hr.al b c hk, by rw [hr.σ b c hk]; exact hq.2⟩
  · exact fitC_sound hr h hx hq
  · cases h

theorem AllQ.append {xs ys : List Prop} (h : AllQ (xs ++ ys)) : AllQ xs ∧ AllQ ys :=
  ⟨fun p hp => h p (List.mem_append_left _ hp), fun p hp => h p (List.mem_append_right _ hp)⟩

theorem fitW_sound {E F : Env} {p : Part D.τ} {qs : List (Part D.τ)} {xs : List Prop} {cs : List Value} (h : fitW D p qs = some xs) (hx : AllQ xs) (hq : PartsRel D E qs cs) : PartsRel D F [p] cs := by
  unfold fitW at h
  split at h
  · split at h
    · rename_i l' hl
      simp only [Option.some.injEq] at h; subst h
      have := hx _ (List.mem_cons_self ..)
      subst this
      have := allInts_rel hl hq
      exact ⟨cs, [], by simp, this, rfl⟩
    · simp only [Option.some.injEq] at h; subst h
      exact hx _ (List.mem_cons_self ..) E F cs hq
  · simp only [Option.some.injEq] at h; subst h
    exact hx _ (List.mem_cons_self ..) E F cs hq

theorem fitPs_sound {ρ : List (Nat × Nat)} {E F : Env} (hr : Ren ρ E F) : ∀ {ps qs : List (Part D.τ)} {xs : List Prop} {cs : List Value}, fitPs D ρ ps qs = some xs → AllQ xs → PartsRel D E qs cs → PartsRel D F ps cs
  | [], [], _, _, _, _, hq => hq
  | [], _ :: _, _, _, h, _, _ => by cases h
  | p :: ps, qs, xs, cs, h, hx, hq => by
    unfold fitPs at h
    split at h
    · exact absurd ‹p :: ps = []› (by simp)
    · rename_i k n l ps' he
      simp only [List.cons.injEq] at he
      obtain ⟨rfl, rfl⟩ := he
      split at h
      · rename_i m r hd
        split at h
        · rename_i l' hl'
          split at h
          · rename_i ys hys
            simp only [Option.some.injEq] at h; subst h
            obtain ⟨c1, c2, rfl, hl1, q1, q2⟩ := dropP_sound hd hq
            have h1 := hx _ (List.mem_cons_self ..)
            subst h1
            have hc := allInts_rel hl' q1
            exact ⟨c1, c2, rfl, ⟨by rw [← hl1, hc]; simp, hc⟩, fitPs_sound hr hys (fun p hp => hx p (List.mem_cons_of_mem _ hp)) q2⟩
          · cases h
        · cases h
      · cases h
    case h_4 => exact absurd ‹p :: ps = []› (by simp)
    rename_i p' ps' _ he
    simp only [List.cons.injEq] at he
    obtain ⟨rfl, rfl⟩ := he
    split at h
    · rename_i q hw
      simp only [Bool.and_eq_true, List.isEmpty_iff] at hw
      obtain ⟨_, rfl⟩ := hw
      split at h
      · rename_i ys hys
        simp only [Option.some.injEq] at h; subst h
        obtain ⟨c1, c2, rfl, q1, q2⟩ := hq
        exact ⟨c1, c2, rfl, fitP_sound hr hys hx q1, q2⟩
      · exact fitW_sound h hx hq
    · rename_i hw _
      simp only [Bool.and_eq_true, List.isEmpty_iff] at hw
      obtain ⟨_, rfl⟩ := hw
      exact fitW_sound h hx hq
    · rename_i q qs'
      split at h
      · rename_i x1 h1
        split at h
        · rename_i x2 h2
          simp only [Option.some.injEq] at h
          subst h
          obtain ⟨c1, c2, rfl, q1, q2⟩ := hq
          exact ⟨c1, c2, rfl, fitP_sound hr h1 hx.append.1 q1, fitPs_sound hr h2 hx.append.2 q2⟩
        · cases h
      · cases h
    · cases h

theorem fit0_sound {ρ : List (Nat × Nat)} {E F : Env} (hr : Ren ρ E F) {a b : A0 D.τ} {xs : List Prop} {v : Value} (h : fit0 D ρ a b = some xs) (hx : AllQ xs) (hb : A0Rel D E b v) : A0Rel D F a v := by
  unfold fit0 at h
  split at h
  · exact ⟨hb.1, fitP_sound hr h hx hb.2⟩
  · obtain ⟨cs, e, hp⟩ := hb
    exact ⟨cs, e, fitPs_sound hr h hx hp⟩
  · cases h

theorem fit0s_sound {ρ : List (Nat × Nat)} {E F : Env} (hr : Ren ρ E F) : ∀ {as bs : List (A0 D.τ)} {xs : List Prop} {vs : List Value}, fit0s D ρ as bs = some xs → AllQ xs → A0sRel D E bs vs → A0sRel D F as vs
  | [], [], _, _, _, _, hb => hb
  | [], _ :: _, _, _, h, _, _ => by cases h
  | _ :: _, [], _, _, h, _, _ => by cases h
  | a :: as, b :: bs, xs, vs, h, hx, ⟨v, us, e, h1, h2⟩ => by
    simp only [fit0s] at h
    split at h
    · rename_i x1 q1
      split at h
      · rename_i x2 q2
        simp only [Option.some.injEq] at h; subst h
        exact ⟨v, us, e, fit0_sound hr q1 hx.append.1 h1, fit0s_sound hr q2 hx.append.2 h2⟩
      · cases h
    · cases h

theorem fitA_sound {ρ : List (Nat × Nat)} {E F : Env} (hr : Ren ρ E F) {a b : AV D.τ} {xs : List Prop} {v : Value} (h : fitA D ρ a b = some xs) (hx : AllQ xs) (hb : AVRel D E b v) : AVRel D F a v := by
  unfold fitA at h
  split at h
  · exact fit0_sound hr h hx hb
  · obtain ⟨vs, e, hv⟩ := hb
    exact ⟨vs, e, fit0s_sound hr h hx hv⟩
  · cases h


theorem fitB_sound {ρ : List (Nat × Nat)} {E F : Env} (hr : Ren ρ E F) {w : World} {b c : Nat} (hbc : assoc ρ b = some c) {s t : BoxSt D.τ} {xs : List Prop} (h : fitB D ρ s t = some xs) (hx : AllQ xs) (hb : BoxRel D E w c t) :
    s.al ∧ BoxRel D F w b s ∧ ∀ g, Fp D F b s g → Fp D E c t g := by
  have hσ := hr.σ b c hbc
  have hν := hr.ν b c hbc
  have hφ := hr.φ b c hbc
  unfold fitB at h
  split at h
  · exact ⟨trivial, trivial, fun g hg => by cases hg⟩
  · rename_i ty ps ty' qs
    cases ht : Nat.beq ty ty' <;> simp only [ht, cond_true, cond_false] at h
    · cases h
    have := Nat.eq_of_beq_eq_true ht
    subst this
    obtain ⟨cs, h1, h2⟩ := hb
    exact ⟨trivial, ⟨cs, by rw [hσ]; exact h1, fitPs_sound hr h hx h2⟩, fun g hg => by simp only [Fp, blk, hσ] at hg ⊢; exact hg⟩
  · rename_i e p e' q
    cases ht : (Nat.beq e e' && Nat.beq (esz D p) (esz D q)) <;> simp only [ht, cond_true, cond_false] at h
    · cases h
    simp only [Bool.and_eq_true] at ht
    have := Nat.eq_of_beq_eq_true ht.1
    subst this
    have he := Nat.eq_of_beq_eq_true ht.2
    obtain ⟨n, cs, h1, h2, h3⟩ := hb
    obtain ⟨c1, c2, e1, q1, q2⟩ := fitPs_sound hr (cs := cs) h hx ⟨cs, [], by simp, h2, rfl⟩
    cases q2
    rw [List.append_nil] at e1
    subst e1
    exact ⟨trivial, ⟨n, cs, by rw [hν, he]; exact h1, q1, by rw [hν]; exact h3⟩, fun g hg => by simp only [Fp, blk, hν] at hg ⊢; exact hg⟩
  · rename_i k es k' es'
    cases ht : Nat.beq k k' <;> simp only [ht, cond_true, cond_false] at h
    · cases h
    simp only [Option.some.injEq] at h; subst h
    have h1 := Nat.eq_of_beq_eq_true ht
    have h2 := hx _ (List.mem_cons_self ..)
    subst h1; subst h2
    exact ⟨trivial, FamRel.ren (XK_stays _) hr.le hσ hν hφ (.inl ⟨rfl, rfl⟩) hb, fun g hg => by simp only [Fp, hφ] at hg ⊢; exact hg⟩
  · rename_i k es x ps k' es' y qs
    cases ht : Nat.beq k k' <;> simp only [ht, cond_true, cond_false] at h
    · cases h
    split at h
    · rename_i ys hys
      simp only [Option.some.injEq] at h; subst h
      have h1 := Nat.eq_of_beq_eq_true ht
      have h2 := hx (y = x) (by simp)
      have h3 := hx (es' = es) (by simp)
      subst h1; subst h2; subst h3
      refine ⟨trivial, FamRel.ren (XK_stays _) hr.le hσ hν hφ (.inr ⟨_, _, _, rfl, rfl, fun agg v hv => ?_⟩) hb, fun g hg => by simp only [Fp, hφ] at hg ⊢; exact hg⟩
      have hy : AllQ ys := fun p hp => hx p (List.mem_cons_of_mem _ (List.mem_cons_of_mem _ hp))
      cases agg with
      | true => obtain ⟨cs, e, hp⟩ := hv; exact ⟨cs, e, fitPs_sound hr hys hy hp⟩
      | false => exact ⟨hv.1, fitPs_sound hr hys hy hv.2⟩
    · cases h
  · cases h


end
end Go.Abs

/- Several texts put together: AbsL AbsP Num Byte EqT. -/
import Derived.Test.YtgfinnhfpiadiaaMrg6
import Derived.WalkKit
import Derived.ChangeKeysEq
namespace Go.Abs
open Go.RowKit
structure Sn (τ : Type) where
  slots : List (Nat × AV τ)
  boxes : List (Nat × BoxSt τ)
  nt : Nat
  np : Nat := 0
def orUn {τ : Type} : Option (BoxSt τ) → BoxSt τ
  | some s => s
  | none => .un
def Sn.st {τ : Type} (s : Sn τ) : St τ := ⟨assoc s.slots, fun b => orUn (assoc s.boxes b), s.nt, s.np⟩
section
variable (D : Dom)
def seekL (ρ : List (Nat × Nat)) : List Nat → List Nat → List (Nat × Nat)
  | b :: bs, c :: cs => seekL ((b, c) :: ρ) bs cs
  | _, _ => ρ
def seekC (ρ : List (Nat × Nat)) : List C1 → List C1 → List (Nat × Nat)
  | .o b :: cs, .o c :: ds => seekC ((b, c) :: ρ) cs ds
  | _ :: cs, _ :: ds => seekC ρ cs ds
  | _, _ => ρ
def seekP (ρ : List (Nat × Nat)) : Part D.τ → Part D.τ → List (Nat × Nat)
  | .ref b _, .ref c _ => (b, c) :: ρ
  | .oref b _, .oref c _ => (b, c) :: ρ
  | .own b, .own c => (b, c) :: ρ
  | .view b _ _ _, .view c _ _ _ => (b, c) :: ρ
  | .aref b _ _ _, .aref c _ _ _ => (b, c) :: ρ
  | .av b _ _ _ _ _, .av c _ _ _ _ _ => (b, c) :: ρ
  | .own b, .nil => (b, nilB + b) :: ρ
  | .ifr _ b _, .ifr _ c _ => (b, c) :: ρ
  | .mapr b, .mapr c => (b, c) :: ρ
  | .clo _ bs, .clo _ cs => seekL ρ bs cs
  | .rec1 cs, .rec1 ds => seekC ρ cs ds
  | _, _ => ρ
def seekPs (ρ : List (Nat × Nat)) : List (Part D.τ) → List (Part D.τ) → List (Nat × Nat)
  | p :: ps, q :: qs => seekPs (seekP D ρ p q) ps qs
  | _, _ => ρ
def seek0 (ρ : List (Nat × Nat)) : A0 D.τ → A0 D.τ → List (Nat × Nat)
  | .one p, .one q => seekP D ρ p q
  | .agg ps, .agg qs => seekPs D ρ ps qs
  | _, _ => ρ
def seek0s (ρ : List (Nat × Nat)) : List (A0 D.τ) → List (A0 D.τ) → List (Nat × Nat)
  | p :: ps, q :: qs => seek0s (seek0 D ρ p q) ps qs
  | _, _ => ρ
def seekSlots (S : St D.τ) (ρ : List (Nat × Nat)) : List (Nat × AV D.τ) → List (Nat × Nat)
  | [] => ρ
  | (t, .v a) :: r => match S.slot t with
    | some (.v b) => seekSlots S (seek0 D ρ a b) r
    | _ => seekSlots S ρ r
  | (t, .tup as) :: r => match S.slot t with
    | some (.tup bs) => seekSlots S (seek0s D ρ as bs) r
    | _ => seekSlots S ρ r
def seekBoxes (S : St D.τ) (ρ : List (Nat × Nat)) : List (Nat × BoxSt D.τ) → List (Nat × Nat)
  | [] => ρ
  | (b, .fixed _ ps) :: r => match assoc ρ b with
    | some c => match S.box c with
      | .fixed _ qs => seekBoxes S (seekPs D ρ ps qs) r
      | _ => seekBoxes S ρ r
    | none => seekBoxes S ρ r
  | (b, .dyn _ (.rec1 cs)) :: r => match assoc ρ b with
    | some c => match S.box c with
      | .dyn _ (.rec1 ds) => seekBoxes S (seekC ρ cs ds) r
      | _ => seekBoxes S ρ r
    | none => seekBoxes S ρ r
  | (b, .fam _ _ (some (_, ps))) :: r => match assoc ρ b with
    | some c => match S.box c with
      | .fam _ _ (some (_, qs)) => seekBoxes S (seekPs D ρ ps qs) r
      | _ => seekBoxes S ρ r
    | none => seekBoxes S ρ r
  | _ :: r => seekBoxes S ρ r
def fitSlots (ρ : List (Nat × Nat)) (S : St D.τ) : List (Nat × AV D.τ) → Option (List Prop)
  | [] => some []
  | (t, a) :: r => match S.slot t with
    | some b => match fitA D ρ a b with
      | some xs => match fitSlots ρ S r with
        | some ys => some (xs ++ ys)
        | none => none
      | none => none
    | none => none
def fitBoxes (ρ : List (Nat × Nat)) (S : St D.τ) : List (Nat × BoxSt D.τ) → Option (List Prop)
  | [] => some []
  | (b, s) :: r => match assoc ρ b with
    | some c => match fitB D ρ s (S.box c) with
      | some xs => match fitBoxes ρ S r with
        | some ys => some (xs ++ ys)
        | none => none
      | none => none
    | none => none
def keysOk (s : Sn D.τ) (ρ : List (Nat × Nat)) : Bool :=
  ρ.all fun x => (match orUn (assoc s.boxes x.1) with | .un => false | _ => true) && ρ.all fun y => bif Nat.beq x.2 y.2 then Nat.beq x.1 y.1 else true
def pins0 : Nat → List (Nat × Nat)
  | 0 => []
  | n + 1 => (n, n) :: pins0 n
def pinsOk (ρ : List (Nat × Nat)) : Nat → Bool
  | 0 => true
  | n + 1 => isKey ρ n n && pinsOk ρ n
def putAll : List Nat → St D.τ → Option (St D.τ × List Prop)
  | [], S => some (S, [])
  | b :: bs, S => match S.box b with
    | .fam k es (some (key, ps)) => match D.fam k with
      | some fd => match (putBack D k b fd es key ps).run S with
        | some ((us, es', qs), _) => match putAll bs (S.app ((us ++ [(b, BoxSt.fam k es' none)]).map fun (x : Nat × BoxSt D.τ) => Upd.box x.1 x.2)) with
          | some (S', rs) => some (S', qs ++ rs)
          | none => none
        | none => none
      | none => none
    | _ => putAll bs S
def famIds (ρ : List (Nat × Nat)) : List (Nat × BoxSt D.τ) → List Nat
  | [] => []
  | (b, .fam _ _ none) :: r => match assoc ρ b with
    | some c => c :: famIds ρ r
    | none => famIds ρ r
  | _ :: r => famIds ρ r
def emptyP : Part D.τ → Option (Part D.τ)
  | .lrs sh _ => some (.lrs sh [])
  | .ints k _ => some (.ints k [])
  | .lws k _ => some (.lws k [])
  | _ => none
def addNil (ρ : List (Nat × Nat)) : List (Nat × BoxSt D.τ) → St D.τ → Option (St D.τ)
  | [], S => some S
  | (b, t) :: r, S => bif isKey ρ b (nilB + b) then match t with
      | .dyn e p => match emptyP D p with
        | some p0 => match S.box (nilB + b) with
          | .un => addNil ρ r (S.upd (.box (nilB + b) (.dyn e p0)))
          | _ => none
        | none => none
      | _ => none
    else addNil ρ r S
def fitSt (S0 : St D.τ) (s : Sn D.τ) : Option (List Prop) :=
  let ρ := seekBoxes D S0 (seekSlots D S0 (pins0 S0.np) s.slots) s.boxes
  match putAll D (famIds D ρ s.boxes) S0 with
  | some (S1, zs) => match addNil D ρ s.boxes S1 with
    | some S =>
      bif (Nat.beq S.nt s.nt && Nat.beq S.np s.np) && (pinsOk ρ S.np && keysOk D s ρ) then
        match fitSlots D ρ S s.slots with
        | some xs => match fitBoxes D ρ S s.boxes with
          | some ys => some (zs ++ (xs ++ ys))
          | none => none
        | none => none
      else none
    | none => none
  | none => none
end
section
variable {P : Program} {D : Dom}
theorem pinsOk_spec {ρ : List (Nat × Nat)} : ∀ {n : Nat}, pinsOk ρ n = true → ∀ b, b < n → assoc ρ b = some b
  | 0, _, b, hb => by omega
  | n + 1, h, b, hb => by
    simp only [pinsOk, Bool.and_eq_true] at h
    by_cases e : b = n
    · subst e; exact isKey_spec h.1
    · exact pinsOk_spec h.2 b (by omega)
theorem fitSlots_mem {ρ : List (Nat × Nat)} {S : St D.τ} : ∀ {l : List (Nat × AV D.τ)} {xs : List Prop}, fitSlots D ρ S l = some xs → AllQ xs → ∀ x ∈ l, ∃ b ys, S.slot x.1 = some b ∧ fitA D ρ x.2 b = some ys ∧ AllQ ys
  | [], _, _, _ => fun x h => by cases h
  | (t, a) :: r, xs, h, hx => by
    simp only [fitSlots] at h
    split at h
    · rename_i b hb
      split at h
      · rename_i x1 h1
        split at h
        · rename_i x2 h2
          simp only [Option.some.injEq] at h
          subst h
          intro x hm
          rcases List.mem_cons.1 hm with rfl | hm
          · exact ⟨b, x1, hb, h1, hx.append.1⟩
          · exact fitSlots_mem h2 hx.append.2 x hm
        · cases h
      · cases h
    · cases h
theorem fitBoxes_mem {ρ : List (Nat × Nat)} {S : St D.τ} : ∀ {l : List (Nat × BoxSt D.τ)} {xs : List Prop}, fitBoxes D ρ S l = some xs → AllQ xs → ∀ x ∈ l, ∃ c ys, assoc ρ x.1 = some c ∧ fitB D ρ x.2 (S.box c) = some ys ∧ AllQ ys
  | [], _, _, _ => fun x h => by cases h
  | (t, a) :: r, xs, h, hx => by
    simp only [fitBoxes] at h
    split at h
    · rename_i c hc
      split at h
      · rename_i x1 h1
        split at h
        · rename_i x2 h2
          simp only [Option.some.injEq] at h
          subst h
          intro x hm
          rcases List.mem_cons.1 hm with rfl | hm
          · exact ⟨c, x1, hc, h1, hx.append.1⟩
          · exact fitBoxes_mem h2 hx.append.2 x hm
        · cases h
      · cases h
    · cases h
theorem putAll_sound {M : Mem} {w0 : World} {a : Act} {w : World} : ∀ {bs : List Nat} {S S' : St D.τ} {qs : List Prop}, putAll D bs S = some (S', qs) → AllQ qs → R D M w0 S a w → R D M w0 S' a w
  | [], S, S', qs, h, _, hR => by
    simp only [putAll, Option.some.injEq, Prod.mk.injEq] at h
    rw [← h.1]; exact hR
  | b :: bs, S, S', qs, h, hq, hR => by
    simp only [putAll] at h
    split at h
    · rename_i k es key ps hbx
      split at h
      · rename_i fd hfd
        split at h
        · rename_i us es' q1 l hpb
          split at h
          · rename_i S1 rs h1
            simp only [Option.some.injEq, Prod.mk.injEq] at h
            obtain ⟨rfl, rfl⟩ := h
            refine putAll_sound h1 hq.append.2 ?_
            obtain ⟨σ, ν, hRR, hA⟩ := hR
            obtain ⟨φ, r1, r2, _⟩ := putBack_sound hRR hbx hfd hpb hq.append.1
            exact ⟨_, ν, r1, hA.mono r2 (bx_slot _ S).1 (bx_slot _ S).2⟩
          · cases h
        · cases h
      · cases h
    · exact putAll_sound h hq hR
theorem empty_rel {E : Env} {p p0 : Part D.τ} (h : emptyP D p = some p0) : PartRel D E p0 [] := by
  unfold emptyP at h
  split at h
  · simp only [Option.some.injEq] at h; subst h; exact ⟨by simp, fun i r h => by simp at h⟩
  · simp only [Option.some.injEq] at h; subst h; rfl
  · simp only [Option.some.injEq] at h; subst h; exact ⟨rfl, fun i u h => by simp at h⟩
  · cases h
theorem RR.nilBox {M : Mem} {w0 : World} {σ : Loc} {ν : Nat → Value} {S : St D.τ} {w : World} (hR : RR D M w0 σ ν S w) {c : Nat} {e : TypeId} {p p0 : Part D.τ} (hun : S.box c = .un) (hp : emptyP D p = some p0) :
    RR D M w0 σ (setN ν c (.slice none 0 0)) (S.upd (.box c (.dyn e p0))) w ∧ (S.env D M w0 σ ν).le ((S.upd (.box c (.dyn e p0))).env D M w0 σ (setN ν c (.slice none 0 0))) := by
  have hle : (S.env D M w0 σ ν).le ((S.upd (.box c (.dyn e p0))).env D M w0 σ (setN ν c (.slice none 0 0))) :=
    env_le_box hun (fun _ _ => rfl) (fun b h => setN_other _ _ h) (Loc.le_refl σ)
  have hno : ∀ g, ¬ Fp D ((S.upd (.box c (.dyn e p0))).env D M w0 σ (setN ν c (.slice none 0 0))) c ((S.upd (.box c (.dyn e p0))).box c) g := by
    intro g hg
    rw [upd_box_same] at hg
    have : (setN ν c (.slice none 0 0) c).ownBlock = some g := hg
    rw [setN_same] at this
    cases this
  refine ⟨hR.step hle (· = c) ?_ ?_ ?_ ?_ hR.kept rfl hR.zk ?_ (fun b g _ h _ => hR.zd b g h) (fun g h => .inl h), hle⟩
  · rintro b rfl
    rw [upd_box_same]
    refine ⟨0, [], ?_, empty_rel hp, ?_⟩
    · show w.ownsL 0 e (esz D p0) (setN ν b (.slice none 0 0) b) 0 []
      rw [setN_same]; exact World.ownsL_nil _ _ _ _
    · show (setN ν b (.slice none 0 0) b).oneCell' = true
      rw [setN_same]; rfl
  · intro b hb
    exact .inl ⟨upd_box_other S _ hb, fun _ _ => rfl⟩
  · rintro b b' g rfl hne h1 h2
    exact hno g h1
  · rintro b g rfl h
    exact (hno g h).elim
  · rintro b g rfl h
    exact (hno g h).elim
theorem addNil_sound {ρ : List (Nat × Nat)} {M : Mem} {w0 : World} {σ : Loc} {a : Act} {w : World} : ∀ {l : List (Nat × BoxSt D.τ)} {S S' : St D.τ} {ν : Nat → Value}, addNil D ρ l S = some S' → RR D M w0 σ ν S w → RA D M w0 σ ν S a →
    ∃ ν', RR D M w0 σ ν' S' w ∧ RA D M w0 σ ν' S' a ∧ (∀ c, (S.box c).al → ν' c = ν c) ∧ ∀ x ∈ l, assoc ρ x.1 = some (nilB + x.1) → ν' (nilB + x.1) = .slice none 0 0
  | [], S, S', ν, h, hR, hA => by
    simp only [addNil, Option.some.injEq] at h
    subst h
    exact ⟨ν, hR, hA, fun _ _ => rfl, fun x hx => by cases hx⟩
  | (b, t) :: r, S, S', ν, h, hR, hA => by
    simp only [addNil] at h
    cases hk : isKey ρ b (nilB + b) <;> simp only [hk, cond_true, cond_false] at h
    · obtain ⟨ν', h1, h2, h3, h4⟩ := addNil_sound h hR hA
      refine ⟨ν', h1, h2, h3, fun x hx hxa => ?_⟩
      rcases List.mem_cons.1 hx with rfl | hx
      · have hk' : isKey ρ b (nilB + b) = true := by
          unfold isKey
          have : assoc ρ b = some (nilB + b) := hxa
          rw [this]; exact Nat.beq_refl _
        rw [hk] at hk'; cases hk'
      · exact h4 x hx hxa
    · split at h
      · rename_i e p
        split at h
        · rename_i p0 hp0
          split at h
          · rename_i hun
            obtain ⟨r1, r2⟩ := hR.nilBox (e := e) hun hp0
            obtain ⟨ν', h1, h2, h3, h4⟩ := addNil_sound h r1 (hA.mono r2 rfl rfl)
            have hc : ν' (nilB + b) = .slice none 0 0 := by
              rw [h3 (nilB + b) (by rw [upd_box_same]; trivial), setN_same]
            refine ⟨ν', h1, h2, fun c hcal => ?_, fun x hx hxa => ?_⟩
            · have hne : c ≠ nilB + b := fun e => by rw [e, hun] at hcal; exact hcal
              rw [h3 c (by rw [upd_box_other S _ hne]; exact hcal), setN_other _ _ hne]
            · rcases List.mem_cons.1 hx with rfl | hx
              · exact hc
              · exact h4 x hx hxa
          · cases h
        · cases h
      · cases h
theorem putAll_np : ∀ {bs : List Nat} {S S' : St D.τ} {qs : List Prop}, putAll D bs S = some (S', qs) → S'.np = S.np
  | [], S, S', qs, h => by
    simp only [putAll, Option.some.injEq, Prod.mk.injEq] at h
    rw [← h.1]
  | b :: bs, S, S', qs, h => by
    simp only [putAll] at h
    split at h
    · split at h
      · split at h
        · split at h
          · rename_i S1 rs h1
            simp only [Option.some.injEq, Prod.mk.injEq] at h
            obtain ⟨rfl, _⟩ := h
            exact (putAll_np h1).trans (bx_np _ S)
          · cases h
        · cases h
      · cases h
    · exact putAll_np h
theorem addNil_np {ρ : List (Nat × Nat)} : ∀ {l : List (Nat × BoxSt D.τ)} {S S' : St D.τ}, addNil D ρ l S = some S' → S'.np = S.np
  | [], S, S', h => by
    simp only [addNil, Option.some.injEq] at h
    rw [h]
  | (b, t) :: r, S, S', h => by
    simp only [addNil] at h
    cases hk : isKey ρ b (nilB + b) <;> simp only [hk, cond_true, cond_false] at h
    · exact addNil_np h
    · split at h
      · split at h
        · split at h
          · exact (addNil_np h).trans rfl
          · cases h
        · cases h
      · cases h
theorem fitSt_np {S : St D.τ} {s : Sn D.τ} {xs : List Prop} (h : fitSt D S s = some xs) : S.np = s.np := by
  unfold fitSt at h
  generalize seekBoxes D S (seekSlots D S (pins0 S.np) s.slots) s.boxes = ρ at h
  simp only at h
  split at h
  case h_2 => cases h
  rename_i S1 zs hput
  split at h
  case h_2 => cases h
  rename_i S2 hnil
  cases hb : ((Nat.beq S2.nt s.nt && Nat.beq S2.np s.np) && (pinsOk ρ S2.np && keysOk D s ρ)) <;> simp only [hb, cond_true, cond_false] at h
  · cases h
  simp only [Bool.and_eq_true] at hb
  rw [← putAll_np hput, ← addNil_np hnil]
  exact Nat.eq_of_beq_eq_true hb.1.2
theorem fitSt_sound {S : St D.τ} {s : Sn D.τ} {xs : List Prop} (h : fitSt D S s = some xs) (hx : AllQ xs) {M : Mem} {w0 : World} {a : Act} {w : World} (hR : R D M w0 S a w) : R D M w0 s.st a w := by
  unfold fitSt at h
  generalize seekBoxes D S (seekSlots D S (pins0 S.np) s.slots) s.boxes = ρ at h
  simp only at h
  split at h
  case h_2 => cases h
  rename_i S1 zs hput
  split at h
  case h_2 => cases h
  rename_i S2 hnil
  cases hb : ((Nat.beq S2.nt s.nt && Nat.beq S2.np s.np) && (pinsOk ρ S2.np && keysOk D s ρ)) <;> simp only [hb, cond_true, cond_false] at h
  · cases h
  simp only [Bool.and_eq_true] at hb
  obtain ⟨⟨hnt, hnp⟩, hpk, hk⟩ := hb
  have hnt := Nat.eq_of_beq_eq_true hnt
  have hnp := Nat.eq_of_beq_eq_true hnp
  have hpin := pinsOk_spec hpk
  split at h
  case h_2 => cases h
  rename_i x1 h1
  split at h
  case h_2 => cases h
  rename_i x2 h2
  simp only [Option.some.injEq] at h
  subst h
  obtain ⟨σ, ν0, hRR0, hA0⟩ := putAll_sound hput hx.append.1 hR
  have hx := hx.append.2
  obtain ⟨ν, hRR, hA, _, hnl⟩ := addNil_sound hnil hRR0 hA0
  have hkey : ∀ b c, assoc ρ b = some c → (s.st.box b).al ∧ ∀ b' c', assoc ρ b' = some c' → c = c' → b = b' := by
    intro b c hbc
    have hm := List.all_eq_true.1 hk _ (assoc_mem hbc)
    simp only [Bool.and_eq_true] at hm
    obtain ⟨hm1, hm2⟩ := hm
    refine ⟨?_, fun b' c' hbc' e => ?_⟩
    · show (orUn (assoc s.boxes b)).al
      revert hm1
      cases orUn (assoc s.boxes b) <;> intro hm1 <;> first | trivial | cases hm1
    · have := List.all_eq_true.1 hm2 _ (assoc_mem hbc')
      simp only [e, Nat.beq_refl, cond_true] at this
      exact Nat.eq_of_beq_eq_true this
  have hren : Ren ρ (S2.env D M w0 σ ν) (s.st.env D M w0 ⟨fun b => σ (keyOf ρ b), σ.zw, σ.zm, fun b => σ.φ (keyOf ρ b)⟩ (fun b => ν (keyOf ρ b))) := by
    refine ⟨fun b c hbc => (hkey b c hbc).1, fun b c hbc => ?_, fun b c hbc => ?_, fun b c hbc => ?_, fun b hbc => ?_, rfl, rfl, rfl, rfl⟩
    · show σ (keyOf ρ b) = σ c
      rw [keyOf, hbc]; rfl
    · show ν (keyOf ρ b) = ν c
      rw [keyOf, hbc]; rfl
    · show σ.φ (keyOf ρ b) = σ.φ c
      rw [keyOf, hbc]; rfl
    · show ν (keyOf ρ b) = _
      rw [keyOf, hbc]
      have hal := (hkey b _ hbc).1
      have hal' : (orUn (assoc s.boxes b)).al := hal
      cases hq : assoc s.boxes b with
      | none => rw [hq] at hal'; exact hal'.elim
      | some t => exact hnl (b, t) (assoc_mem hq) hbc
  have hbox : ∀ b, s.st.box b = .un ∨ ∃ c ys, assoc ρ b = some c ∧ fitB D ρ (s.st.box b) (S2.box c) = some ys ∧ AllQ ys := by
    intro b
    show orUn (assoc s.boxes b) = .un ∨ ∃ c ys, assoc ρ b = some c ∧ fitB D ρ (orUn (assoc s.boxes b)) (S2.box c) = some ys ∧ AllQ ys
    cases hq : assoc s.boxes b with
    | none => exact .inl rfl
    | some t => exact .inr (fitBoxes_mem h2 hx.append.2 _ (assoc_mem hq))
  have hblk : ∀ b g, Fp D (s.st.env D M w0 ⟨fun b => σ (keyOf ρ b), σ.zw, σ.zm, fun b => σ.φ (keyOf ρ b)⟩ (fun b => ν (keyOf ρ b))) b (s.st.box b) g → ∃ c, assoc ρ b = some c ∧ Fp D (S2.env D M w0 σ ν) c (S2.box c) g := by
    intro b g hg
    rcases hbox b with hun | ⟨c, ys, hc, hf, hys⟩
    · rw [hun] at hg; cases hg
    · exact ⟨c, hc, (fitB_sound hren hc hf hys (hRR.boxes c)).2.2 g hg⟩
  refine ⟨⟨fun b => σ (keyOf ρ b), σ.zw, σ.zm, fun b => σ.φ (keyOf ρ b)⟩, fun b => ν (keyOf ρ b), ⟨fun b => ?_, fun b b' g hne hg hg' => ?_, fun b g hg => ?_, hRR.kept, hRR.zk, fun b g hg => ?_, fun b hb => ?_, hRR.glob, hRR.z0, hRR.zn⟩, ⟨by rw [hA.size, hnt]; rfl, hA.defers, fun t av hav => ?_⟩⟩
  · rcases hbox b with hun | ⟨c, ys, hc, hf, hys⟩
    · rw [hun]; trivial
    · exact (fitB_sound hren hc hf hys (hRR.boxes c)).2.1
  · obtain ⟨c, hc, hg1⟩ := hblk b g hg
    obtain ⟨c', hc', hg2⟩ := hblk b' g hg'
    exact hRR.disj c c' g (fun e => hne ((hkey b c hc).2 b' c' hc' e)) hg1 hg2
  · obtain ⟨c, hc, hg1⟩ := hblk b g hg
    exact hRR.lo c g hg1
  · obtain ⟨c, hc, hg1⟩ := hblk b g hg
    exact hRR.zd c g hg1
  · have hb' : b < S2.np := by rw [hnp]; exact hb
    have hbb := hpin b hb'
    obtain ⟨p1, p2, _⟩ := hRR.pins b hb'
    have hkb : keyOf ρ b = b := by rw [keyOf, hbb]; rfl
    refine ⟨?_, ?_, (hkey b b hbb).1⟩
    · show σ (keyOf ρ b) = _
      rw [hkb]; exact p1
    · show ν (keyOf ρ b) = _
      rw [hkb]; exact p2
  · obtain ⟨b, ys, hb, hf, hys⟩ := fitSlots_mem h1 hx.append.1 _ (assoc_mem hav)
    exact fitA_sound hren hf hys (hA.slots t b hb)
theorem loop_sinks {x : Code} {J : Nat → Act → World → Prop} {Q : Exit → Act → World → Prop} {a : Act} {w : World} {g : Nat} (h0 : J g a w)
    (hb : ∀ g a w, J g a w → x.wp P (fun e a' w' => match e with | .normal => ∃ g', g' < g ∧ J g' a' w' | .exit id => Q (.exit id) a' w' | .ret => Q .ret a' w' | _ => False) a w) : (Code.loop x).wp P Q a w := by
  have hleast : ∀ a w, (∃ g, J g a w) → ∃ g, J g a w ∧ ∀ g', J g' a w → g ≤ g' := by
    intro a w ⟨g, hg⟩
    induction g using Nat.strongRecOn with
    | _ g ihg =>
      by_cases hex : ∃ g', g' < g ∧ J g' a w
      · obtain ⟨g', h1, h2⟩ := hex
        exact ihg g' h1 h2
      · refine ⟨g, hg, fun g' h' => ?_⟩
        rcases Nat.lt_or_ge g' g with h1 | h1
        · exact (hex ⟨g', h1, h'⟩).elim
        · exact h1
  let μ : Act → World → Nat := fun a w => open Classical in if h : ∃ g, J g a w then Classical.choose (hleast a w h) else 0
  have hμ : ∀ a w, (∃ g, J g a w) → J (μ a w) a w ∧ ∀ g', J g' a w → μ a w ≤ g' := by
    intro a w h
    have e : μ a w = Classical.choose (hleast a w h) := dif_pos h
    rw [e]
    exact Classical.choose_spec (hleast a w h)
  refine wp_loop (fun a w => ∃ g, J g a w) μ ⟨g, h0⟩ (fun a w hI => ?_)
  have h1 := hb _ a w (hμ a w hI).1
  refine wp_mono h1 ?_
  intro e a' w' he
  cases e <;> simp only at he
  case normal =>
    obtain ⟨g', hlt, hJ⟩ := he
    exact ⟨⟨g', hJ⟩, by have := (hμ a' w' ⟨g', hJ⟩).2 g' hJ; omega⟩
  case exit => exact he
  case ret => exact he
def Ex.same : Ex → Ex → Bool
  | .normal, .normal => true
  | .exit a, .exit b => Nat.beq a b
  | .ret, .ret => true
  | _, _ => false
theorem Ex.same_eq {a b : Ex} (h : Ex.same a b = true) : a = b := by
  cases a <;> cases b <;> first | rfl | (cases h; done) | (have := Nat.eq_of_beq_eq_true h; subst this; rfl)
variable (P D) in
def stepPs (Γ : Gam D) (fuel : Nat) (c : Code) (nid : Nat) (S : St D.τ) (ds : List (Dec D.τ)) (e : Ex) (s : Sn D.τ) : Option (List Prop) :=
  match exec P D Γ fuel c nid S ds with
  | some o => bif Ex.same o.e e then match fitSt D o.S s with
    | some qs => some (o.ps ++ qs)
    | none => none
    else none
  | none => none
variable (D) in
def loopL (s0 : Sn D.τ) (e : Ex) (s : Sn D.τ) (S : St D.τ) : Option (Ex × St D.τ × List Prop) :=
  match fitSt D S s0 with
  | some qs => some (e, s.st, qs)
  | none => none
theorem stepPs_sound {Γ : Gam D} (hΓ : GamOK P D Γ) (hm : P.follows .mixedOrders = true) {fuel : Nat} {c : Code} {nid : Nat} {S : St D.τ} {ds : List (Dec D.τ)} {e : Ex} {s : Sn D.τ} {ps : List Prop}
    (h : stepPs P D Γ fuel c nid S ds e s = some ps) (hps : AllQ ps) {M : Mem} {w0 : World} {a : Act} {w : World} {Q : Exit → Act → World → Prop} (hR : R D M w0 S a w)
    (hQ : ∀ a' w', R D M w0 s.st a' w' → Q e.out a' w') : c.wp P Q a w := by
  unfold stepPs at h
  split at h
  · rename_i o ho
    cases hb : Ex.same o.e e <;> simp only [hb, cond_true, cond_false] at h
    · cases h
    · have := Ex.same_eq hb
      subst this
      split at h
      · rename_i qs hq
        simp only [Option.some.injEq] at h
        subst h
        exact exec_sound hΓ hm fuel c nid S ds o ho hps.append.1 M w0 a w Q hR fun a' w' hR' => hQ a' w' (fitSt_sound hq hps.append.2 hR')
      · cases h
  · cases h
theorem sum_loop {Γ : Gam D} (hΓ : GamOK P D Γ) (hm : P.follows .mixedOrders = true) {c : Code} (I : Nat → Sn D.τ) (N : Nat) {e : Ex} {s : Sn D.τ} (he : Ex.same e .normal = false)
    (hs : ∀ k, k < N → ∃ fuel nid ds ps, stepPs P D Γ fuel c nid (I k).st ds .normal (I (k + 1)) = some ps ∧ AllQ ps)
    (hx : ∃ fuel nid ds ps, stepPs P D Γ fuel c nid (I N).st ds e s = some ps ∧ AllQ ps) : SumOK P D c (loopL D (I 0) e s) := by
  intro S e' S' ps hL hps M w0 a w Q hR hQ
  unfold loopL at hL
  split at hL
  · rename_i qs hq
    simp only [Option.some.injEq, Prod.mk.injEq] at hL
    obtain ⟨rfl, rfl, rfl⟩ := hL
    have hR0 := fitSt_sound hq hps hR
    refine loop_sinks (J := fun g a w => g ≤ N ∧ R D M w0 (I (N - g)).st a w) (g := N) ⟨Nat.le_refl _, by rw [Nat.sub_self]; exact hR0⟩ (fun g a w ⟨hg, hRg⟩ => ?_)
    cases g with
    | zero =>
      obtain ⟨fuel, nid, ds, ps, h1, h2⟩ := hx
      refine stepPs_sound hΓ hm h1 h2 hRg (fun a' w' hR' => ?_)
      have := hQ a' w' hR'
      cases e
      · cases he
      · exact this
      · exact this
    | succ g =>
      obtain ⟨fuel, nid, ds, ps, h1, h2⟩ := hs (N - (g + 1)) (by omega)
      refine stepPs_sound hΓ hm h1 h2 hRg (fun a' w' hR' => ?_)
      refine ⟨g, Nat.lt_succ_self _, by omega, ?_⟩
      rw [show N - (g + 1) + 1 = N - g from by omega] at hR'
      exact hR'
  · cases hL
theorem fnOK_of {Γ : Gam D} (hΓ : GamOK P D Γ) (hm : P.follows .mixedOrders = true) {f : FuncId} {fn : Func} {F : FnD D} (hf : P.funcs[f]? = some fn)
    (hc : ∀ args w, (callFunc f args).run P w = .ok (.enter f args) w)
    (h : ∀ xs r ps, F xs = some (r, ps) → AllQ ps → ∃ xs' fuel ds r' qs, (∀ w vs, A0sRel D (cenv w) xs vs → A0sRel D (cenv w) xs' vs) ∧ runF P D Γ fuel fn xs' ds = some (r', qs) ∧ AllQ qs ∧
      ∀ E v, AVRel D E r' v → AVRel D E r v) : FnOK P D f F := by
  intro xs r ps hF hps w vs hG hx
  obtain ⟨xs', fuel, ds, r', qs, h1, h2, h3, h4⟩ := h xs r ps hF hps
  refine ⟨_, hc _ w, ?_⟩
  refine (runF_calls hΓ hm hf h2 h3 hG (h1 w vs hx)).mono ?_
  rintro e w' ⟨v, he, ⟨ν, hd, hr⟩, hb⟩
  exact ⟨v, he, ⟨ν, hd, h4 _ _ hr⟩, hb⟩
def AllP : Option (List Prop) → Prop
  | some ps => allC ps
  | none => False
where allC : List Prop → Prop
  | [] => True
  | [p] => p
  | p :: q :: ps => p ∧ allC (q :: ps)
theorem AllP.all : ∀ {ps : List Prop}, AllP.allC ps → AllQ ps
  | [], _ => fun p hp => by cases hp
  | [p], h => fun q hq => by rcases List.mem_cons.1 hq with rfl | hq; exact h; cases hq
  | p :: q :: ps, h => fun r hr => by
    rcases List.mem_cons.1 hr with rfl | hr
    · exact h.1
    · exact AllP.all h.2 r hr
theorem AllP.step {o : Option (List Prop)} (h : AllP o) : ∃ ps, o = some ps ∧ AllQ ps := by
  cases o with
  | none => exact h.elim
  | some ps => exact ⟨ps, rfl, AllP.all h⟩
end
end Go.Abs
namespace Go.Abs
open Go.RowKit
section
variable (P : Program) (D : Dom)
def enumA {τ : Type} : Nat → List (A0 τ) → List (Nat × AV τ)
  | _, [] => []
  | i, x :: xs => (i, .v x) :: enumA (i + 1) xs
def enumB {τ : Type} : Nat → List (BoxSt τ) → List (Nat × BoxSt τ)
  | _, [] => []
  | i, x :: xs => (i, x) :: enumB (i + 1) xs
def St.startO (n : Nat) (xs : List (A0 D.τ)) (bs : List (BoxSt D.τ)) : St D.τ := ⟨argSlots D 0 xs, (bst bs.length bs).box, n, bs.length⟩
def snO {τ : Type} (n : Nat) (p : List (BoxSt τ) × List (A0 τ)) : Sn τ := ⟨enumA 0 p.2, enumB 0 p.1, n, p.1.length⟩
def retA {τ : Type} : List (A0 τ) → AV τ
  | [a] => .v a
  | as => .tup as
def runO (Γ : Gam D) (fuel : Nat) (fn : Func) (p : List (BoxSt D.τ) × List (A0 D.τ)) (ds : List (Dec D.τ)) (r : AV D.τ) (bs' : List (BoxSt D.τ)) : Option (List Prop) :=
  match fn.body with
  | some c => match exec P D Γ fuel c p.1.length (snO fn.ntmps p).st ds with
    | some ⟨.exit _, _, _, _, _⟩ => none
    | some ⟨_, S, ps, _, _⟩ => match resList P D S fn.results.toList with
      | some (as, cs) => match fitSt D ⟨fun t => bif Nat.beq t 0 then some (retA as) else none, S.box, 1, S.np⟩ ⟨[(0, r)], enumB 0 bs', 1, p.1.length⟩ with
        | some qs => some (ps ++ (cs ++ qs))
        | none => none
      | none => none
    | none => none
  | none => none
def mkF {θ : Type} (n : Nat) (rd : List (BoxSt D.τ) → List (A0 D.τ) → Option θ) (pre : θ → List (BoxSt D.τ) × List (A0 D.τ)) (post : θ → Option (AV D.τ × List (BoxSt D.τ) × List Prop))
    (bs : List (BoxSt D.τ)) (xs : List (A0 D.τ)) : Option (AV D.τ × List (BoxSt D.τ) × List Prop) :=
  bif Nat.ble xs.length n then match rd bs xs with
  | some t => match fitSt D (St.startO D n xs bs) (snO n (pre t)) with
    | some qs => match post t with
      | some (r, bs', ps) => some (r, bs', qs ++ ps)
      | none => none
    | none => none
  | none => none
  else none
end
section
variable {P : Program} {D : Dom}
theorem RR.same {M : Mem} {w0 : World} {σ : Loc} {ν : Nat → Value} {S S' : St D.τ} {w : World} (h : RR D M w0 σ ν S w) (hb : S'.box = S.box) (hn : S'.np = S.np) : RR D M w0 σ ν S' w := by
  obtain ⟨a, b, c, d⟩ := S
  obtain ⟨a', b', c', d'⟩ := S'
  simp only at hb hn
  subst hb hn
  exact ⟨h.boxes, h.disj, h.lo, h.kept, h.zk, h.zd, h.pins, h.glob, h.z0, h.zn⟩
theorem env_same {M : Mem} {w0 : World} {σ : Loc} {ν : Nat → Value} {S S' : St D.τ} (hb : S'.box = S.box) : S'.env D M w0 σ ν = S.env D M w0 σ ν := by
  unfold St.env
  rw [hb]
theorem a0s_len {E : Env} : ∀ {xs : List (A0 D.τ)} {vs : List Value}, A0sRel D E xs vs → vs.length = xs.length
  | [], _, h => by cases h; rfl
  | _ :: _, _, ⟨v, us, e, _, h⟩ => by subst e; simp [a0s_len h]
theorem assoc_enumB {τ : Type} : ∀ (bs : List (BoxSt τ)) (k i : Nat), orUn (assoc (enumB k bs) (k + i)) = (bs[i]?).getD .un
  | [], k, i => rfl
  | b :: bs, k, i => by
    show orUn (bif Nat.beq (k + i) k then some b else assoc (enumB (k + 1) bs) (k + i)) = _
    cases i with
    | zero => rw [Nat.add_zero, Nat.beq_refl]; rfl
    | succ i =>
      rw [beq_ne (by omega), show k + (i + 1) = (k + 1) + i from by omega]
      simp only [cond_false]
      rw [assoc_enumB bs (k + 1) i]
      simp
theorem retA_rel {E : Env} : ∀ {as : List (A0 D.τ)} {vs : List Value}, A0sRel D E as vs → AVRel D E (retA as) (retOf vs)
  | [], vs, h => by cases h; exact ⟨[], rfl, rfl⟩
  | [a], vs, h => by
    obtain ⟨v, us, rfl, h1, h2⟩ := h
    cases h2
    exact h1
  | a :: b :: as, vs, h => by
    have h' := h
    obtain ⟨v, us, rfl, h1, v2, us2, rfl, h3⟩ := h
    exact ⟨_, rfl, h'⟩
theorem opOK_mkG (hm : P.follows .mixedOrders = true) {f : FuncId} {fn : Func} {θ : Type} {rd : List (BoxSt D.τ) → List (A0 D.τ) → Option θ} {pre : θ → List (BoxSt D.τ) × List (A0 D.τ)}
    {post : θ → Option (AV D.τ × List (BoxSt D.τ) × List Prop)} (hf : P.funcs[f]? = some fn) (hc : ∀ args w, (callFunc f args).run P w = .ok (.enter f args) w)
    (h : ∀ t r bs' ps, post t = some (r, bs', ps) → AllQ ps → ∃ Γ fuel ds, GamOK P D Γ ∧ ∃ qs, runO P D Γ fuel fn (pre t) ds r bs' = some qs ∧ AllQ qs) :
    OpOK P D f (mkF D fn.ntmps rd pre post) := by
  intro bs xs r bs' ps hF hps w σ ν vs hst hxs
  unfold mkF at hF
  cases hxl : Nat.ble xs.length fn.ntmps <;> simp only [hxl, cond_true, cond_false] at hF
  · cases hF
  have hxl := Nat.le_of_ble_eq_true hxl
  split at hF
  · rename_i t hrd
    split at hF
    · rename_i q0 hq0
      split at hF
      · rename_i r1 bs1 p1 hpost
        simp only [Option.some.injEq, Prod.mk.injEq] at hF
        obtain ⟨rfl, rfl, rfl⟩ := hF
        obtain ⟨Γ, fuel, ds, hΓ, qs, hrun, hqs⟩ := h t r1 bs1 p1 hpost (fun p hp => hps p (List.mem_append_right _ hp))
        refine ⟨_, _, hc _ w, ?_⟩
        unfold runO at hrun
        split at hrun
        · rename_i c hbody
          have hlen : vs.length = xs.length := by
            exact a0s_len hxs
          have hn : vs.length ≤ fn.ntmps := by rw [hlen]; exact hxl
          refine calls_of_wp hf hbody ?_
          have hR0 : R D (opMem D w σ ν bs) w (St.startO D fn.ntmps xs bs) ⟨vs.toArray ++ Array.replicate (fn.ntmps - vs.toArray.size) undef, []⟩ w := by
            refine ⟨σ, ν, hst.same rfl rfl, ⟨by simp [St.startO]; omega, rfl, fun s av hs => ?_⟩⟩
            obtain ⟨a, h1, h2, rfl⟩ := argSlots_get hs
            obtain ⟨v, hv, hr⟩ := hxs.get h2
            rw [Nat.sub_zero] at hv
            have hlt : s < vs.length := (List.getElem?_eq_some_iff.1 hv).1
            have e : (vs.toArray ++ Array.replicate (fn.ntmps - vs.toArray.size) undef).getD s undef = v := by
              simp only [Array.getD_eq_getD_getElem?, Array.getElem?_append, List.size_toArray, hlt, if_true, List.getElem?_toArray, hv, Option.getD_some]
            rw [e]
            exact hr
          have hR1 := fitSt_sound hq0 (fun p hp => hps p (List.mem_append_left _ hp)) hR0
          split at hrun
          · cases hrun
          · rename_i e S qs1 ds1 n1 hne he
            split at hrun
            · rename_i as cs hres
              split at hrun
              · rename_i q2 hq2
                simp only [Option.some.injEq] at hrun
                subst hrun
                refine exec_sound hΓ hm fuel c _ _ _ _ he hqs.append.1 _ w _ _ _ hR1 (fun a' w' hR => ?_)
                obtain ⟨σ2, ν2, hR2, hA2⟩ := hR
                obtain ⟨vs', e1, hvs'⟩ := resList_rel hR2 hA2 hres hqs.append.2.append.1
                have hret : AVRel D (S.env D (opMem D w σ ν bs) w σ2 ν2) (retA as) (retOf vs') := by
                  exact retA_rel hvs'
                have hR3 : R D (opMem D w σ ν bs) w ⟨fun t => bif Nat.beq t 0 then some (retA as) else none, S.box, 1, S.np⟩ ⟨#[retOf vs'], []⟩ w' := by
                  refine ⟨σ2, ν2, hR2.same rfl rfl, ⟨rfl, rfl, fun s av hs => ?_⟩⟩
                  have hs' : (bif Nat.beq s 0 then some (retA as) else none) = some av := hs
                  by_cases h0 : s = 0
                  · subst h0
                    rw [Nat.beq_refl] at hs'
                    simp only [cond_true, Option.some.injEq] at hs'
                    subst hs'
                    exact hret
                  · rw [beq_ne h0] at hs'
                    cases hs'
                obtain ⟨σ', ν', hR4, hA4⟩ := fitSt_sound hq2 hqs.append.2.append.2 hR3
                have hbl : (pre t).1.length = bs.length := by
                  exact (fitSt_np hq0).symm
                have hbox : (bst bs.length bs1).box = (Sn.st ⟨[(0, r1)], enumB 0 bs1, 1, (pre t).1.length⟩).box := by
                  funext i
                  rw [bst_box]
                  show _ = orUn (assoc (enumB 0 bs1) i)
                  have := assoc_enumB bs1 0 i
                  rw [Nat.zero_add] at this
                  exact this.symm
                have hfin : ∃ v, (results fn a'.tmps).run P w' = .ok v w' ∧ ∃ v', Ending.returned v = .returned v' ∧ ∃ σ' ν', RR D (opMem D w σ ν bs) w σ' ν' (bst bs.length bs1) w' ∧ AVRel D ((bst bs.length bs1).env D (opMem D w σ ν bs) w σ' ν') r1 v' := by
                  refine ⟨_, run_results e1, _, rfl, σ', ν', hR4.same hbox (by show bs.length = (pre t).1.length; exact hbl.symm), ?_⟩
                  have := hA4.slots 0 r1 rfl
                  rw [← env_same hbox] at this
                  exact this
                have hgo : a'.defers = [] ∧ ∃ v, (results fn a'.tmps).run P w' = .ok v w' ∧ ∃ v', Ending.returned v = .returned v' ∧ ∃ σ' ν', RR D (opMem D w σ ν bs) w σ' ν' (bst bs.length bs1) w' ∧ AVRel D ((bst bs.length bs1).env D (opMem D w σ ν bs) w σ' ν') r1 v' := ⟨hA2.defers, hfin⟩
                cases e
                · exact hgo
                · exact (hne _ rfl).elim
                · exact hgo
              · cases hrun
            · cases hrun
          · cases hrun
        · cases hrun
      · cases hF
    · cases hF
  · cases hF
theorem opOK_mkR (hm : P.follows .mixedOrders = true) {f : FuncId} {fn : Func} {θ : Type} {rd : List (BoxSt D.τ) → List (A0 D.τ) → Option θ} {pre : θ → List (BoxSt D.τ) × List (A0 D.τ)}
    {post : θ → Option (AV D.τ × List (BoxSt D.τ) × List Prop)} (hf : P.funcs[f]? = some fn) (hc : ∀ args w, (callFunc f args).run P w = .ok (.enter f args) w) (hrd : ∀ bs xs t, rd bs xs = some t → (pre t).1 = bs)
    (h : ∀ t r ns ps, post t = some (r, ns, ps) → AllQ ps → ∃ Γ fuel ds, GamOK P D Γ ∧ ∃ qs, runO P D Γ fuel fn (pre t) ds r ((pre t).1 ++ ns) = some qs ∧ AllQ qs) :
    OpOK P D f (withNew (mkF D fn.ntmps rd pre post)) := by
  have he : withNew (mkF D fn.ntmps rd pre post) = mkF D fn.ntmps rd pre (fun t => match post t with | some (r, ns, ps) => some (r, (pre t).1 ++ ns, ps) | none => none) := by
    funext bs xs
    unfold withNew mkF
    cases Nat.ble xs.length fn.ntmps <;> simp only [cond_true, cond_false]
    cases hr : rd bs xs with
    | none => rfl
    | some t =>
      have hb := hrd bs xs t hr
      simp only
      cases fitSt D (St.startO D fn.ntmps xs bs) (snO fn.ntmps (pre t)) with
      | none => rfl
      | some qs =>
        simp only
        cases post t with
        | none => rfl
        | some x =>
          obtain ⟨r, ns, ps⟩ := x
          simp only [hb]
  rw [he]
  refine opOK_mkG hm hf hc fun t r bs' ps h1 h2 => ?_
  split at h1
  · rename_i r0 ns ps0 hp
    cases h1
    exact h t _ ns _ hp h2
  · cases h1
end
end Go.Abs
namespace Go.Num
abbrev B : Int := 18446744073709551616
def val : List Int → Int
  | [] => 0
  | a :: l => a + B * val l
def InR (l : List Int) : Prop := ∀ a ∈ l, 0 ≤ a ∧ a < B
theorem InR.cons {a : Int} {l : List Int} (h : InR (a :: l)) : (0 ≤ a ∧ a < B) ∧ InR l := ⟨h a (List.mem_cons_self ..), fun b hb => h b (List.mem_cons_of_mem _ hb)⟩
def InB (l : List Int) : Prop := ∀ a ∈ l, 0 ≤ a ∧ a < 256
end Go.Num
namespace Go.Abs
open Go.RowKit
section
variable (P : Program)
def eqOK : Nat → TypeId → Option Nat
  | 0, _ => none
  | d + 1, t => match P.underlying t with
    | some (.int _) => bif szOf P t == some 1 then some 1 else none
    | some (.array len e) => match eqOK d e with
      | some n => bif P.cellsOf e == n && szOf P e == some n && szOf P t == some (len * n) then some (len * n) else none
      | none => none
    | some (.struct fs) => bif P.stoodInHeld t then none else match eqFs (eqOK d) 0 fs.toList with
      | some n => bif szOf P t == some n then some n else none
      | none => none
    | _ => none
where eqFs (f : TypeId → Option Nat) : Nat → List Field → Option Nat
  | off, [] => some off
  | off, g :: gs => bif g.name != "_" && Nat.beq g.offset off then (match f g.type with
    | some n => bif szOf P g.type == some n then eqFs f (off + n) gs else none
    | none => none) else none
end
section
variable {P : Program}
def IntsP (xs ys : List Value) : Prop := ∀ (i : Nat) u v, xs[i]? = some u → ys[i]? = some v → ∃ k a b, u = .int k a ∧ v = .int k b
def zall (xs ys : List Value) : Bool := (xs.zip ys).all fun c => intOf c.1 == intOf c.2
def valT (P : Program) (t : TypeId) (xs : List Value) : Value := if aggB P t = true then .agg xs.toArray else xs.headD undef
theorem IntsP.left {xs ys us vs : List Value} (h : IntsP (xs ++ us) (ys ++ vs)) (hl : xs.length = ys.length) : IntsP xs ys := by
  intro i u v hu hv
  have h1 := (List.getElem?_eq_some_iff.1 hu).1
  exact h i u v (by rw [List.getElem?_append_left h1]; exact hu) (by rw [List.getElem?_append_left (by omega)]; exact hv)
theorem IntsP.right {xs ys us vs : List Value} (h : IntsP (xs ++ us) (ys ++ vs)) (hl : xs.length = ys.length) : IntsP us vs := by
  intro i u v hu hv
  exact h (xs.length + i) u v (by rw [List.getElem?_append_right (by omega), Nat.add_sub_cancel_left]; exact hu) (by rw [hl, List.getElem?_append_right (by omega), Nat.add_sub_cancel_left]; exact hv)
theorem zall_append {xs ys us vs : List Value} (hl : xs.length = ys.length) : zall (xs ++ us) (ys ++ vs) = (zall xs ys && zall us vs) := by
  unfold zall
  rw [List.zip_append hl, List.all_append]
def EqIn (P : Program) (d : Nat) (t : TypeId) (n : Nat) : Prop := ∀ w xs ys, xs.length = n → ys.length = n → IntsP xs ys → (Op.equalIn d t (valT P t xs) (valT P t ys)).run P w = .ok (zall xs ys) w
theorem cut3 {α : Type} (xs : List α) (off n : Nat) (h : off + n ≤ xs.length) : ∃ c1 c2 c3, xs = c1 ++ (c2 ++ c3) ∧ c1.length = off ∧ c2.length = n :=
  ⟨xs.take off, (xs.drop off).take n, (xs.drop off).drop n, by rw [List.take_append_drop, List.take_append_drop], by simp; omega, by simp; omega⟩
theorem part_val {t : TypeId} {c1 c2 c3 : List Value} {off n : Nat} {w : World} (hs : szOf P t = some n) (h1 : c1.length = off) (h2 : c2.length = n) (hn : aggB P t = false → n = 1) :
    (part t (c1 ++ (c2 ++ c3)).toArray off).run P w = .ok (valT P t c2) w := by
  have h := run_partB (P := P) (w := w) (c1 := c1) (c2 := c2) (c3 := c3) (cs := (c1 ++ (c2 ++ c3)).toArray) hs rfl h1 h2
  unfold valT
  cases hg : aggB P t
  · have hn1 := hn hg
    rw [hn1] at h2
    obtain ⟨v, rfl⟩ := List.length_eq_one_iff.1 h2
    simpa using h.2 hg v rfl
  · simpa using h.1 hg
theorem eqFields_sound {d : Nat} {xs ys : List Value} {w : World} {f : TypeId → Option Nat} (hf : ∀ t n, f t = some n → EqIn P d t n ∧ (aggB P t = false → n = 1)) (hl : xs.length = ys.length) : ∀ {fs : List Field} {off n : Nat} {c1 c2 d1 d2 : List Value},
    eqOK.eqFs P f off fs = some n → xs = c1 ++ c2 → ys = d1 ++ d2 → c1.length = off → d1.length = off → xs.length = n → IntsP c2 d2 → (Op.eqFields d xs.toArray ys.toArray fs).run P w = .ok (zall c2 d2) w
  | [], off, n, c1, c2, d1, d2, h, hx, hy, h1, h2, hn, hi => by
    simp only [eqOK.eqFs, Option.some.injEq] at h
    subst h
    have e1 : c2 = [] := List.length_eq_zero_iff.1 (by rw [hx, List.length_append] at hn; omega)
    have e2 : d2 = [] := List.length_eq_zero_iff.1 (by rw [hl, hy, List.length_append] at hn; omega)
    subst e1
    subst e2
    simp [Op.eqFields, zall]
  | g :: gs, off, n, c1, c2, d1, d2, h, hx, hy, h1, h2, hn, hi => by
    simp only [eqOK.eqFs] at h
    cases hb : (g.name != "_" && Nat.beq g.offset off) <;> simp only [hb, cond_true, cond_false] at h
    · cases h
    simp only [Bool.and_eq_true, bne_iff_ne, ne_eq] at hb
    obtain ⟨hname, hoff⟩ := hb
    have hoff := Nat.eq_of_beq_eq_true hoff
    split at h
    · rename_i m hm
      cases hs : (szOf P g.type == some m) <;> simp only [hs, cond_true, cond_false] at h
      · cases h
      have hs := eq_of_beq hs
      obtain ⟨hE, h1m⟩ := hf _ _ hm
      have hle : ∀ {fs : List Field} {off n : Nat}, eqOK.eqFs P f off fs = some n → off ≤ n := by
        intro fs
        induction fs with
        | nil => intro off n h; simp only [eqOK.eqFs, Option.some.injEq] at h; omega
        | cons a fs ih =>
          intro off n h
          simp only [eqOK.eqFs] at h
          cases hb : (a.name != "_" && Nat.beq a.offset off) <;> simp only [hb, cond_true, cond_false] at h
          · cases h
          split at h
          · rename_i m' _
            cases hs' : (szOf P a.type == some m') <;> simp only [hs', cond_true, cond_false] at h
            · cases h
            · have := ih h; omega
          · cases h
      have hmn := hle h
      have l2 : c2.length = n - off := by rw [hx, List.length_append] at hn; omega
      have l3 : d2.length = n - off := by rw [hl, hy, List.length_append] at hn; omega
      obtain ⟨a0, a1, a2, ea, ha0, ha1⟩ := cut3 c2 0 m (by omega)
      obtain ⟨b0, b1, b2, eb, hb0, hb1⟩ := cut3 d2 0 m (by omega)
      have ea0 := List.length_eq_zero_iff.1 ha0
      have eb0 := List.length_eq_zero_iff.1 hb0
      subst ea0
      subst eb0
      rw [List.nil_append] at ea eb
      subst ea
      subst eb
      have p1 := part_val (P := P) (w := w) (c1 := c1) (c2 := a1) (c3 := a2) hs h1 ha1 h1m
      have p2 := part_val (P := P) (w := w) (c1 := d1) (c2 := b1) (c3 := b2) hs h2 hb1 h1m
      rw [← hx] at p1
      rw [← hy] at p2
      have hll : a1.length = b1.length := by omega
      have p3 := hE w a1 b1 ha1 hb1 (hi.left hll)
      simp only [Op.eqFields, hname, ne_eq, not_false_eq_true, if_true, hoff, Sem.run_bind, p1, p2, p3, Result.andThen_ok]
      rw [zall_append hll]
      cases zall a1 b1
      · simp
      · have := eqFields_sound (w := w) hf hl (c1 := c1 ++ a1) (c2 := a2) (d1 := d1 ++ b1) (d2 := b2) h (by rw [hx, List.append_assoc]) (by rw [hy, List.append_assoc]) (by rw [List.length_append]; omega) (by rw [List.length_append]; omega) hn (hi.right hll)
        simpa using this
    · cases h
theorem eqItems_sound {d n : Nat} {e : TypeId} {xs ys : List Value} {w : World} (hE : EqIn P d e n) (h1n : aggB P e = false → n = 1) (hs : szOf P e = some n) (hl : xs.length = ys.length) : ∀ {m j : Nat} {c1 c2 d1 d2 : List Value},
    xs = c1 ++ c2 → ys = d1 ++ d2 → c1.length = j * n → d1.length = j * n → xs.length = (j + m) * n → IntsP c2 d2 → (Op.eqItems d e n xs.toArray ys.toArray (List.range' j m)).run P w = .ok (zall c2 d2) w
  | 0, j, c1, c2, d1, d2, hx, hy, h1, h2, hn, hi => by
    rw [Nat.add_zero] at hn
    have e1 : c2 = [] := List.length_eq_zero_iff.1 (by rw [hx, List.length_append] at hn; omega)
    have e2 : d2 = [] := List.length_eq_zero_iff.1 (by rw [hl, hy, List.length_append] at hn; omega)
    subst e1
    subst e2
    simp [Op.eqItems, zall]
  | m + 1, j, c1, c2, d1, d2, hx, hy, h1, h2, hn, hi => by
    have hn' : xs.length = j * n + (n + m * n) := by rw [hn, Nat.add_mul, Nat.add_mul, Nat.one_mul]; omega
    have l2 : c2.length = n + m * n := by rw [hx, List.length_append] at hn'; omega
    have l3 : d2.length = n + m * n := by rw [hl, hy, List.length_append] at hn'; omega
    obtain ⟨a0, a1, a2, ea, ha0, ha1⟩ := cut3 c2 0 n (by omega)
    obtain ⟨b0, b1, b2, eb, hb0, hb1⟩ := cut3 d2 0 n (by omega)
    have ea0 := List.length_eq_zero_iff.1 ha0
    have eb0 := List.length_eq_zero_iff.1 hb0
    subst ea0
    subst eb0
    rw [List.nil_append] at ea eb
    subst ea
    subst eb
    have p1 := part_val (P := P) (w := w) (c1 := c1) (c2 := a1) (c3 := a2) hs h1 ha1 h1n
    have p2 := part_val (P := P) (w := w) (c1 := d1) (c2 := b1) (c3 := b2) hs h2 hb1 h1n
    rw [← hx] at p1
    rw [← hy] at p2
    have hll : a1.length = b1.length := by omega
    have p3 := hE w a1 b1 ha1 hb1 (hi.left hll)
    simp only [List.range'_succ, Op.eqItems, Sem.run_bind, p1, p2, p3, Result.andThen_ok]
    rw [zall_append hll]
    cases zall a1 b1
    · simp
    · have := eqItems_sound (w := w) hE h1n hs hl (m := m) (j := j + 1) (c1 := c1 ++ a1) (c2 := a2) (d1 := d1 ++ b1) (d2 := b2) (by rw [hx, List.append_assoc]) (by rw [hy, List.append_assoc]) (by rw [List.length_append, Nat.add_mul, Nat.one_mul]; omega) (by rw [List.length_append, Nat.add_mul, Nat.one_mul]; omega) (by rw [hn]; congr 1; omega) (hi.right hll)
      simpa using this
theorem eqOK_agg {d n : Nat} {t : TypeId} (h : eqOK P d t = some n) (hg : aggB P t = false) : n = 1 := by
  cases d with
  | zero => cases h
  | succ d =>
    simp only [eqOK] at h
    unfold aggB at hg
    split at h
    · cases hs : (szOf P t == some 1) <;> simp only [hs, cond_true, cond_false, Option.some.injEq] at h
      · cases h
      · exact h.symm
    · rename_i hu; rw [hu] at hg; cases hg
    · rename_i hu; rw [hu] at hg; cases hg
    · cases h
theorem eqOK_sound (e : Nat) : ∀ {d : Nat} {t : TypeId} {n : Nat}, eqOK P d t = some n → EqIn P (d + e) t n
  | 0, t, n, h => by cases h
  | d + 1, t, n, h => by
    intro w xs ys hx hy hi
    have hd : d + 1 + e = (d + e) + 1 := by omega
    rw [hd]
    have h0 := h
    simp only [eqOK] at h
    split at h
    · rename_i k hu
      cases hs : (szOf P t == some 1) <;> simp only [hs, cond_true, cond_false, Option.some.injEq] at h
      · cases h
      subst h
      obtain ⟨u, rfl⟩ := List.length_eq_one_iff.1 hx
      obtain ⟨v, rfl⟩ := List.length_eq_one_iff.1 hy
      obtain ⟨k', a, b, rfl, rfl⟩ := hi 0 u v rfl rfl
      have hg : aggB P t = false := by unfold aggB; rw [hu]
      simp only [valT, hg, Bool.false_eq_true, if_false, List.headD_cons]
      rw [run_equalIn_int w (d + e) t k' k a b hu]
      simp [zall, intOf]
    · rename_i len el hu
      split at h
      · rename_i m hm
        cases hs : (P.cellsOf el == m && szOf P el == some m && szOf P t == some (len * m)) <;> simp only [hs, cond_true, cond_false, Option.some.injEq] at h
        · cases h
        subst h
        simp only [Bool.and_eq_true, beq_iff_eq] at hs
        obtain ⟨⟨hc, hse⟩, _⟩ := hs
        obtain ⟨i, _, hinfo, _, _⟩ := szOf_spec hse
        have hg : aggB P t = true := by unfold aggB; rw [hu]
        simp only [valT, hg, if_true]
        rw [run_equalIn_array (w := w) (d + e) xs.toArray ys.toArray hu hinfo, hc, List.range_eq_range']
        exact eqItems_sound (eqOK_sound e hm) (eqOK_agg hm) hse (by omega) (c1 := []) (d1 := []) rfl rfl (by simp) (by simp) (by rw [hx, Nat.zero_add]) hi
      · cases h
    · rename_i fs hu
      cases hst : P.stoodInHeld t <;> simp only [hst, cond_true, cond_false] at h
      · split at h
        · rename_i m hm
          cases hs : (szOf P t == some m) <;> simp only [hs, cond_true, cond_false, Option.some.injEq] at h
          · cases h
          subst h
          have hg : aggB P t = true := by unfold aggB; rw [hu]
          have hfo : P.fieldsOf t = fs := by simp [Program.fieldsOf, hu]
          simp only [valT, hg, if_true]
          rw [run_equalIn_struct w (d + e) t xs.toArray ys.toArray (by rw [hfo]; exact hu) hst, hfo]
          exact eqFields_sound (fun t n h => ⟨eqOK_sound e h, eqOK_agg h⟩) (by omega) hm (c1 := []) (d1 := []) rfl rfl rfl rfl hx hi
        · cases h
      · cases h
    · cases h
theorem eqT_of {t : TypeId} {n : Nat} (h : eqOK P 20 t = some n) (hs : szOf P t = some n) (hg : aggB P t = true) (he : P.eqGuardType P.depth t = false) : EqT P t := by
  intro w xs ys hl hn hi
  rw [hs, Option.getD_some] at hn
  refine ⟨?_, he⟩
  have := eqOK_sound (P := P) 9980 h w xs ys hn (by omega) hi
  simp only [valT, hg, if_true] at this
  exact this
end
end Go.Abs

/- An evaluator over descriptions of values: whole functions and loops. -/
import Derived.Test.YtakigppkbolmnaaAbsC
namespace Go.Abs
open Go.RowKit
section
variable (P : Program) (D : Dom)

def Ex.out : Ex → Exit
  | .normal => .normal
  | .exit id => .exit id
  | .ret => .ret

/-- What is said of a loop is true: from each state that it speaks of it is left as it says. -/
def SumOK (c : Code) (L : St D.τ → Option (Ex × St D.τ × List Prop)) : Prop :=
  ∀ S e S' ps, L S = some (e, S', ps) → (∀ p ∈ ps, p) → ∀ M w0 a w Q, R D M w0 S a w → (∀ a' w', R D M w0 S' a' w' → Q e.out a' w') → (Code.loop c).wp P Q a w

structure Out where
  e : Ex
  S : St D.τ
  ps : List Prop
  ds : List (Dec D.τ)
  nid : Nat

def rowPs {τ : Type} : List (Row τ) → List Prop
  | [] => []
  | r :: rs => r.ps ++ rowPs rs

def exec (Γ : Gam D) : Nat → Code → Nat → St D.τ → List (Dec D.τ) → Option (Out D)
  | 0, _, _, _, _ => none
  | f + 1, c, nid, S, ds =>
    match c with
    | .skip => some ⟨.normal, S, [], ds, nid⟩
    | .label _ => some ⟨.normal, S, [], ds, nid⟩
    | .ret => some ⟨.ret, S, [], ds, nid⟩
    | .exit id => some ⟨.exit id, S, [], ds, nid⟩
    | .seq a b => match exec Γ f a nid S ds with
      | some ⟨.normal, S1, p1, ds1, n1⟩ => match exec Γ f b n1 S1 ds1 with
        | some ⟨e, S2, p2, ds2, n2⟩ => some ⟨e, S2, p1 ++ p2, ds2, n2⟩
        | none => none
      | some o => some o
      | none => none
    | .cond x a b => match evalA S x with
      | some (.v (.one (.bool true v))) => exec Γ f (bif v then a else b) nid S ds
      | some (.v (.one (.bool false v))) => match ds with
        | .is u :: ds1 => match exec Γ f (bif u then a else b) nid S ds1 with
          | some ⟨e, S2, p2, ds2, n2⟩ => some ⟨e, S2, (v = u) :: p2, ds2, n2⟩
          | none => none
        | _ => none
      | _ => none
    | .block id a => match exec Γ f a nid S ds with
      | some ⟨.exit j, S1, p1, ds1, n1⟩ => bif Nat.beq j id then some ⟨.normal, S1, p1, ds1, n1⟩ else some ⟨.exit j, S1, p1, ds1, n1⟩
      | some o => some o
      | none => none
    | .scope a => exec Γ f a nid S ds
    | .loop a => match ds with
      | .loop L :: ds1 => match L S with
        | some (e, S1, p1) => some ⟨e, S1, SumOK P D a L :: p1, ds1, nid⟩
        | none => none
      | .roll :: ds => match exec Γ f a nid S ds with
        | some ⟨.normal, S1, p1, ds1, n1⟩ => match exec Γ f (.loop a) n1 S1 (.roll :: ds1) with
          | some ⟨e, S2, p2, ds2, n2⟩ => some ⟨e, S2, p1 ++ p2, ds2, n2⟩
          | none => none
        | some o => some o
        | none => none
      | _ => none
    | .region _ ops draw => match rows P D Γ ops nid ops.toList S ds with
      | some (rs, ds1) => bif !draw || drawOk ops.toList rs then some ⟨.normal, S.appRows rs, rowPs rs, ds1, nid + 16 * ops.toList.length⟩ else none
      | none => none
    | _ => none

end
section
variable {P : Program} {D : Dom}

theorem rowPs_all {τ : Type} : ∀ {rs : List (Row τ)}, (∀ p ∈ rowPs rs, p) → AllPs rs
  | [], _ => fun r hr => by cases hr
  | r :: rs, h => by
    intro r' hr' p hp
    rcases List.mem_cons.1 hr' with rfl | hr'
    · exact h p (List.mem_append_left _ hp)
    · exact rowPs_all (fun p hp => h p (List.mem_append_right _ hp)) r' hr' p hp

theorem wp_region_rows {Γ : Gam D} (hΓ : GamOK P D Γ) (hm : P.follows .mixedOrders = true) {id : Nat} {ops : Array Oper} {draw : Bool} {M : Mem} {w0 : World} {Q : Exit → Act → World → Prop} {nid : Nat} {S : St D.τ} {ds ds' : List (Dec D.τ)} {rs : List (Row D.τ)}
    (hrows : rows P D Γ ops nid ops.toList S ds = some (rs, ds')) (hps : AllPs rs) (hok : (!draw || drawOk ops.toList rs) = true) {a : Act} {w : World} (hR : R D M w0 S a w)
    (hQ : ∀ a' w', R D M w0 (S.appRows rs) a' w' → Q .normal a' w') : (Code.region id ops draw).wp P Q a w := by
  cases draw with
  | false =>
    refine wp_region ?_
    have h := wpOps_seq (Q := Q) hΓ ops.toList 0 nid S ds ds' rs a w (fun j => by rw [Nat.zero_add, Array.getElem?_toList]) hrows hps hR hQ
    rw [List.range_eq_range']
    simpa using h
  | true =>
    simp only [Bool.not_true, Bool.false_or] at hok
    have hR' : R D M w0 S a { w with drawn := w.drawn + 1 } := by
      obtain ⟨σ, ν, hRR, hA⟩ := hR
      exact ⟨σ, ν, ⟨fun b => BoxRel.stays _ _ w _ _ _ ⟨fun _ h => h, fun _ _ => rfl, fun _ _ => rfl, rfl, rfl, ⟨rfl, rfl⟩, Loc.le_refl _⟩ rfl rfl rfl (fun _ _ => rfl) (hRR.boxes b), hRR.disj, hRR.lo, ⟨hRR.kept.os, hRR.kept.tape, hRR.kept.output, hRR.kept.size, hRR.kept.block⟩, hRR.zk, hRR.zd, hRR.pins, hRR.glob, hRR.z0, hRR.zn⟩, hA⟩
    refine wp_region_any hm (wpAny_draw hΓ hrows hps hok hQ ops.size (Array.replicate ops.size false) a _ (by simp) ?_ ?_ ?_)
    · rw [List.countP_eq_length.2]
      · simp
      · intro i hi
        have := List.mem_range.1 hi
        simp [this]
    · intro j o ho hj
      have : (Array.replicate ops.size false).getD j false = false := by
        by_cases hj' : j < ops.size
        · simp [hj']
        · simp [Array.getD, hj']
      have hj' : (Array.replicate ops.size false).getD j false = true := hj
      rw [this] at hj'
      cases hj'
    · have : ∀ (rs : List (Row D.τ)) (i : Nat) (T : St D.τ), appE (fun i => (Array.replicate ops.size false).getD i false) i rs T = T := by
        intro rs
        induction rs with
        | nil => intro i T; rfl
        | cons r rs ih =>
          intro i T
          show appE _ (i + 1) rs (bif (Array.replicate ops.size false).getD i false then T.app r.us else T) = T
          have : (Array.replicate ops.size false).getD i false = false := by
            by_cases hj' : i < ops.size
            · simp [hj']
            · simp [Array.getD, hj']
          rw [this]
          exact ih (i + 1) T
      rw [this]
      exact hR'

def ExecOK (P : Program) (D : Dom) (Γ : Gam D) (f : Nat) (c : Code) : Prop := ∀ (nid : Nat) (S : St D.τ) (ds : List (Dec D.τ)) (o : Out D), exec P D Γ f c nid S ds = some o → (∀ p ∈ o.ps, p) →
    ∀ M w0 a w Q, R D M w0 S a w → (∀ a' w', R D M w0 o.S a' w' → Q o.e.out a' w') → c.wp P Q a w

/-- A loop that is gone through round by round. -/
theorem roll_sound {Γ : Gam D} {x : Code} {f : Nat} (ih : ∀ g, g ≤ f → ExecOK P D Γ g x) : ∀ (nid : Nat) (S : St D.τ) (ds : List (Dec D.τ)) (o : Out D), exec P D Γ (f + 1) (.loop x) nid S (.roll :: ds) = some o → (∀ p ∈ o.ps, p) →
    ∀ M w0 a w Q, R D M w0 S a w → (∀ a' w', R D M w0 o.S a' w' → Q o.e.out a' w') → (Code.loop x).wp P Q a w := by
  intro nid S ds o h hps M w0 a w Q hR hQ
  let I : Nat → Act → World → Prop := fun g a w => g ≤ f + 1 ∧ ∃ nid S ds o, exec P D Γ g (.loop x) nid S (.roll :: ds) = some o ∧ (∀ p ∈ o.ps, p) ∧ R D M w0 S a w ∧ ∀ a' w', R D M w0 o.S a' w' → Q o.e.out a' w'
  have hI0 : ∃ g, I g a w := ⟨f + 1, Nat.le_refl _, nid, S, ds, o, h, hps, hR, hQ⟩
  have hleast : ∀ a w, (∃ g, I g a w) → ∃ g, I g a w ∧ ∀ g', I g' a w → g ≤ g' := by
    intro a w ⟨g, hg⟩
    induction g using Nat.strongRecOn with
    | _ g ihg =>
      by_cases hex : ∃ g', g' < g ∧ I g' a w
      · obtain ⟨g', h1, h2⟩ := hex
        exact ihg g' h1 h2
      · refine ⟨g, hg, fun g' h' => ?_⟩
        rcases Nat.lt_or_ge g' g with h1 | h1
        · exact (hex ⟨g', h1, h'⟩).elim
        · exact h1
  let μ : Act → World → Nat := fun a w => open Classical in if h : ∃ g, I g a w then Classical.choose (hleast a w h) else 0
  have hμ : ∀ a w, (∃ g, I g a w) → I (μ a w) a w ∧ ∀ g', I g' a w → μ a w ≤ g' := by
    intro a w h
    have e : μ a w = Classical.choose (hleast a w h) := dif_pos h
    rw [e]
    exact Classical.choose_spec (hleast a w h)
  refine wp_loop (fun a w => ∃ g, I g a w) μ hI0 (fun a w hI => ?_)
  obtain ⟨⟨hle, nid, S, ds, o, h, hps, hR, hQ⟩, _⟩ := hμ a w hI
  generalize hg : μ a w = g at h hle
  cases g with
  | zero => simp [exec] at h
  | succ g =>
    simp only [exec] at h
    split at h
    · rename_i S1 p1 ds1 n1 h1
      split at h
      · rename_i e S2 p2 ds2 n2 h2
        simp only [Option.some.injEq] at h
        subst h
        refine ih g (by omega) nid S ds _ h1 (fun p hp => hps p (List.mem_append_left _ hp)) M w0 a w _ hR (fun a' w' hR' => ?_)
        have hI' : I g a' w' := ⟨by omega, n1, S1, ds1, _, h2, fun p hp => hps p (List.mem_append_right _ hp), hR', hQ⟩
        exact ⟨⟨g, hI'⟩, by have := (hμ a' w' ⟨g, hI'⟩).2 g hI'; omega⟩
      · cases h
    · rename_i o' hne h1
      simp only [Option.some.injEq] at h
      subst h
      refine ih g (by omega) nid S ds _ h1 hps M w0 a w _ hR (fun a' w' hR' => ?_)
      have := hQ a' w' hR'
      obtain ⟨e, S1, p1, ds1, n1⟩ := o'
      cases e
      case normal => exact (hne _ _ _ _ rfl).elim
      case exit id => exact this
      case ret => exact this
    · cases h

theorem exec_sound {Γ : Gam D} (hΓ : GamOK P D Γ) (hm : P.follows .mixedOrders = true) : ∀ (f : Nat) (c : Code), ExecOK P D Γ f c := by
  intro f
  induction f using Nat.strongRecOn with
  | _ f ihs =>
    intro c nid S ds o h hps M w0 a w Q hR hQ
    cases f with
    | zero => simp [exec] at h
    | succ f =>
    have ih : ∀ c, ExecOK P D Γ f c := ihs f (Nat.lt_succ_self f)
    unfold exec at h
    split at h
    · simp only [Option.some.injEq] at h; subst h; exact wp_skip (hQ a w hR)
    · simp only [Option.some.injEq] at h; subst h; exact wp_label (hQ a w hR)
    · simp only [Option.some.injEq] at h; subst h; exact wp_ret (hQ a w hR)
    · simp only [Option.some.injEq] at h; subst h; exact wp_exit (hQ a w hR)
    · rename_i x y
      split at h
      · rename_i S1 p1 ds1 n1 h1
        split at h
        · rename_i e S2 p2 ds2 n2 h2
          simp only [Option.some.injEq] at h
          subst h
          refine wp_seq (ih x nid S ds _ h1 (fun p hp => hps p (List.mem_append_left _ hp)) M w0 a w _ hR (fun a' w' hR' => ?_))
          exact ih y n1 S1 ds1 _ h2 (fun p hp => hps p (List.mem_append_right _ hp)) M w0 a' w' Q hR' hQ
        · cases h
      · rename_i o' hne h1
        simp only [Option.some.injEq] at h
        subst h
        refine wp_seq (ih x nid S ds _ h1 hps M w0 a w _ hR (fun a' w' hR' => ?_))
        have := hQ a' w' hR'
        obtain ⟨e, S1, p1, ds1, n1⟩ := o'
        cases e
        case normal => exact (hne _ _ _ _ rfl).elim
        case exit id => exact this
        case ret => exact this
      · cases h
    · rename_i x y z
      split at h
      · rename_i v hv
        obtain ⟨σ, ν, hRR, hA⟩ := id hR
        have hb := bool_rel (evalA_rel hA hv)
        refine wp_cond hb ?_
        have := ih _ nid S ds o h hps M w0 a w Q hR hQ
        cases v <;> exact this
      · rename_i v hv
        obtain ⟨σ, ν, hRR, hA⟩ := id hR
        have hb := bool_rel (evalA_rel hA hv)
        split at h
        · rename_i u ds1
          split at h
          · rename_i e S2 p2 ds2 n2 h2
            simp only [Option.some.injEq] at h
            subst h
            have huv : v = u := hps _ (by simp)
            subst huv
            refine wp_cond hb ?_
            have := ih _ nid S ds1 _ h2 (fun p hp => hps p (List.mem_cons_of_mem _ hp)) M w0 a w Q hR hQ
            cases v <;> exact this
          · cases h
        · cases h
      · cases h
    · rename_i id x
      split at h
      · rename_i j S1 p1 ds1 n1 h1
        cases hb : Nat.beq j id <;> simp only [hb, cond_true, cond_false, Option.some.injEq] at h
        · subst h
          refine wp_block (ih x nid S ds _ h1 hps M w0 a w _ hR (fun a' w' hR' => ?_))
          have hne : j ≠ id := fun e => by subst e; simp at hb
          have := hQ a' w' hR'
          simp only [Ex.out] at this ⊢
          simpa [Exit.inBlock, hne] using this
        · subst h
          refine wp_block (ih x nid S ds _ h1 hps M w0 a w _ hR (fun a' w' hR' => ?_))
          have he : j = id := Nat.eq_of_beq_eq_true hb
          have := hQ a' w' hR'
          simp only [Ex.out] at this ⊢
          simpa [Exit.inBlock, he] using this
      · rename_i o' hne h1
        simp only [Option.some.injEq] at h
        subst h
        refine wp_block (ih x nid S ds _ h1 hps M w0 a w _ hR (fun a' w' hR' => ?_))
        have := hQ a' w' hR'
        obtain ⟨e, S1, p1, ds1, n1⟩ := o'
        cases e
        case normal => exact this
        case exit id => exact (hne _ _ _ _ _ rfl).elim
        case ret => exact this
      · cases h
    · rename_i x
      refine wp_scope_straight (ih x nid S ds o h hps M w0 a w _ hR (fun a' w' hR' => ?_))
      have := hQ a' w' hR'
      cases he : o.e <;> rw [he] at this <;> exact this
    · rename_i x
      split at h
      · rename_i L ds1
        split at h
        · rename_i e S1 p1 h1
          simp only [Option.some.injEq] at h
          subst h
          have hs : SumOK P D x L := hps _ (by simp)
          exact hs S e S1 p1 h1 (fun p hp => hps p (List.mem_cons_of_mem _ hp)) M w0 a w Q hR hQ
        · cases h
      · rename_i ds1
        exact roll_sound (fun g hg => ihs g (Nat.lt_succ_of_le hg) x) nid S ds1 o (by simp only [exec]; exact h) hps M w0 a w Q hR hQ
      · cases h
    · rename_i id ops draw
      split at h
      · rename_i rs ds1 hrs
        cases hok : (!draw || drawOk ops.toList rs) <;> simp only [hok, cond_true, cond_false] at h
        · cases h
        · simp only [Option.some.injEq] at h
          subst h
          exact wp_region_rows hΓ hm hrs (rowPs_all hps) hok hR hQ
      · cases h
    · cases h

end
end Go.Abs

/- An evaluator over descriptions of values: memory that is known for ever, calls that work on the caller's boxes. -/
import Derived.Test.YtakigppkbolmnaaAbsB
namespace Go.Abs
open Go.RowKit
section
variable {P : Program} {D : Dom}

theorem upd_twice (S : St D.τ) (b : Nat) (s t : BoxSt D.τ) : (S.upd (.box b s)).upd (.box b t) = S.upd (.box b t) := by
  unfold St.upd
  simp only [St.mk.injEq, true_and, and_true]
  funext i
  cases Nat.beq i b <;> rfl

theorem freeze_le {M : Mem} {w0 w : World} {σ : Loc} {ν : Nat → Value} {S : St D.τ} (hR : RR D M w0 σ ν S w) (b : Nat) :
    (S.env D M w0 σ ν).le ((S.upd (.box b .dead)).env D M w0 ⟨σ.f, w, fun g => σ.zm g ∨ Fp D (S.env D M w0 σ ν) b (S.box b) g, σ.φ⟩ ν) := by
  refine ⟨fun c h => ?_, fun _ _ => rfl, fun _ _ => rfl, rfl, rfl, ⟨rfl, rfl⟩, fun g hg => ⟨.inl hg, (hR.zk g hg).2⟩⟩
  show ((S.upd (.box b .dead)).box c).al
  by_cases hc : c = b
  · subst hc; rw [upd_box_same]; trivial
  · rw [upd_box_other S _ hc]; exact h

/-- What lies in a box is known for ever; the box is let go of. -/
theorem RR.freeze {M : Mem} {w0 w : World} {σ : Loc} {ν : Nat → Value} {S : St D.τ} (hR : RR D M w0 σ ν S w) (b : Nat) :
    RR D M w0 ⟨σ.f, w, fun g => σ.zm g ∨ Fp D (S.env D M w0 σ ν) b (S.box b) g, σ.φ⟩ ν (S.upd (.box b .dead)) w := by
  refine hR.step (freeze_le hR b) (fun _ => False) (fun _ h => h.elim) (fun c _ => ?_) (fun _ _ _ h => h.elim) (fun _ _ h => h.elim) hR.kept rfl (fun g hg => ?_) (fun _ _ h => h.elim) (fun c g _ hc he hz => ?_) (fun g hg => ?_)
  · by_cases hc : c = b
    · subst hc; exact .inr (upd_box_same _ _ _)
    · exact .inl ⟨upd_box_other S _ hc, fun _ _ => rfl⟩
  · rcases hg with hg | hg
    · exact ⟨(hR.zk g hg).1, rfl⟩
    · exact ⟨blk_lt hR hg, rfl⟩
  · rcases hz with hz | hz
    · exact hR.zd c g hc hz
    · by_cases hcb : c = b
      · subst hcb
        rw [upd_box_same] at he
        rw [← he] at hc
        cases hc
      · exact hR.disj c b g hcb hc hz
  · rcases hg with hg | hg
    · exact .inl hg
    · exact .inr (hR.lo b g hg)

theorem lands_fz {M : Mem} {w0 : World} {S : St D.τ} {a : Act} {w' : World} {nid : Nat} {e : TypeId} {k : IntKind} {l : List Int} {v : Value} {qs : List Prop}
    (h : Lands M w0 S a ⟨.v (.one (.own nid)), [(nid, .dyn e (.ints k l))], qs⟩ v w') : Lands M w0 S a ⟨.v (.one (.pw k l)), [(nid, .dead)], qs⟩ v w' := by
  obtain ⟨σ, ν, hR, hA, hv⟩ := h
  simp only [bx_one] at hR hA hv
  have hb := hR.boxes nid
  rw [upd_box_same] at hb
  obtain ⟨n, xs, hown, hp, h1⟩ := hb
  simp only [PartRel] at hp
  subst hp
  refine ⟨⟨σ.f, w', fun g => σ.zm g ∨ Fp D ((S.upd (.box nid (.dyn e (.ints k l)))).env D M w0 σ ν) nid ((S.upd (.box nid (.dyn e (.ints k l)))).box nid) g, σ.φ⟩, ν, ?_, ?_, ?_⟩
  · rw [bx_one, ← upd_twice S nid (.dyn e (.ints k l)) .dead]
    exact hR.freeze nid
  · rw [bx_one, ← upd_twice S nid (.dyn e (.ints k l)) .dead]
    exact hA.mono (freeze_le hR nid) rfl rfl
  · obtain ⟨_, _, _, hv3⟩ := hv
    have hv4 : v = ν nid := (List.cons.inj hv3).1
    refine ⟨by rw [hv4]; exact h1, v, rfl, ?_⟩
    rw [hv4]
    exact sl_own hown fun g hg hz => hz (.inr (by rw [upd_box_same]; exact hg))

/-! Renaming. -/

structure RenF (ρ : Nat → Option Nat) (E F : Env) : Prop where
  al : ∀ b c, ρ b = some c → E.al b → F.al c
  σ : ∀ b c, ρ b = some c → F.σ c = E.σ b
  ν : ∀ b c, ρ b = some c → F.ν c = E.ν b
  z : E.σ.le F.σ

theorem rnL_sound {ρ : Nat → Option Nat} {E F : Env} (hr : RenF ρ E F) : ∀ {bs cs : List Nat}, rnL ρ bs = some cs → (∀ b ∈ bs, E.al b) →
    (∀ c ∈ cs, F.al c) ∧ (cs.map fun b => Value.pointer (some ⟨F.σ.f b, 0, none⟩)) = bs.map fun b => Value.pointer (some ⟨E.σ.f b, 0, none⟩)
  | [], cs, h, _ => by
    simp only [rnL, Option.some.injEq] at h; subst h
    exact ⟨(fun c h => by cases h), rfl⟩
  | b :: bs, cs, h, ha => by
    simp only [rnL] at h
    split at h
    · rename_i c hc
      split at h
      · rename_i ds hd
        simp only [Option.some.injEq] at h; subst h
        obtain ⟨h1, h2⟩ := rnL_sound hr hd fun x hx => ha x (List.mem_cons_of_mem _ hx)
        refine ⟨fun x hx => ?_, ?_⟩
        · rcases List.mem_cons.1 hx with rfl | hx
          · exact hr.al _ _ hc (ha b (List.mem_cons_self ..))
          · exact h1 x hx
        · simp only [List.map_cons, h2]
          rw [show F.σ.f c = E.σ.f b from hr.σ _ _ hc]
      · cases h
    · cases h

theorem rnC_len {ρ : Nat → Option Nat} : ∀ {cs ds : List C1}, rnC ρ cs = some ds → ds.length = cs.length
  | [], ds, e => by simp only [rnC, Option.some.injEq] at e; subst e; rfl
  | .s x :: cs, ds, e => by
    obtain ⟨r, hr', rfl⟩ := Option.map_eq_some_iff.1 e
    simp [rnC_len hr']
  | .i k n :: cs, ds, e => by
    obtain ⟨r, hr', rfl⟩ := Option.map_eq_some_iff.1 e
    simp [rnC_len hr']
  | .o b :: cs, ds, e => by
    simp only [rnC] at e
    split at e
    · obtain ⟨r, hr', rfl⟩ := Option.map_eq_some_iff.1 e
      simp [rnC_len hr']
    · cases e

theorem rnC_sound {ρ : Nat → Option Nat} {E F : Env} (hr : RenF ρ E F) : ∀ {cs ds : List C1} {vs : List Value}, rnC ρ cs = some ds → C1sRel E cs vs → C1sRel F ds vs
  | [], ds, vs, e, h => by simp only [rnC, Option.some.injEq] at e; subst e; exact h
  | .s x :: cs, ds, vs, e, ⟨v, us, e1, h1, h2⟩ => by
    obtain ⟨r, hr', rfl⟩ := Option.map_eq_some_iff.1 e
    exact ⟨v, us, e1, h1, rnC_sound hr hr' h2⟩
  | .i k n :: cs, ds, vs, e, ⟨v, us, e1, h1, h2⟩ => by
    obtain ⟨r, hr', rfl⟩ := Option.map_eq_some_iff.1 e
    exact ⟨v, us, e1, h1, rnC_sound hr hr' h2⟩
  | .o b :: cs, ds, vs, e, ⟨v, us, e1, h1, h2⟩ => by
    simp only [rnC] at e
    split at e
    · rename_i c hc
      obtain ⟨r, hr', rfl⟩ := Option.map_eq_some_iff.1 e
      exact ⟨v, us, e1, ⟨hr.al _ _ hc h1.1, by rw [hr.ν _ _ hc]; exact h1.2.1, by rw [hr.ν _ _ hc]; exact h1.2.2⟩, rnC_sound hr hr' h2⟩
    · cases e

theorem rnP_sound {ρ : Nat → Option Nat} {E F : Env} (hr : RenF ρ E F) {p q : Part D.τ} {cs : List Value} (h : rnP D ρ p = some q) (hp : PartRel D E p cs) : PartRel D F q cs := by
  unfold rnP at h
  split at h
  case h_10 =>
    simp only [Option.some.injEq] at h; subst h
    obtain ⟨v, e, hs⟩ := hp
    exact ⟨v, e, pw_mono hr.z hs⟩
  case h_11 =>
    split at h
    · rename_i c hc
      simp only [Option.some.injEq] at h; subst h
      exact ⟨hr.al _ _ hc hp.1, by rw [hr.σ _ _ hc]; exact hp.2⟩
    · cases h
  case h_12 =>
    split at h
    · rename_i c hc
      simp only [Option.some.injEq] at h; subst h
      exact ⟨hr.al _ _ hc hp.1, by rw [hr.ν _ _ hc]; exact hp.2⟩
    · cases h
  case h_13 =>
    split at h
    · rename_i c hc
      simp only [Option.some.injEq] at h; subst h
      exact ⟨hr.al _ _ hc hp.1, by rw [hr.ν _ _ hc]; exact hp.2⟩
    · cases h
  case h_14 =>
    split at h
    · rename_i c hc
      simp only [Option.some.injEq] at h; subst h
      exact ⟨hr.al _ _ hc hp.1, by rw [hr.σ _ _ hc]; exact hp.2⟩
    · cases h
  case h_15 =>
    split at h
    · rename_i c hc
      simp only [Option.some.injEq] at h; subst h
      exact ⟨hr.al _ _ hc hp.1, by rw [hr.σ _ _ hc]; exact hp.2⟩
    · cases h
  case h_16 =>
    split at h
    · rename_i c hc
      simp only [Option.some.injEq] at h; subst h
      exact ⟨hr.al _ _ hc hp.1, by rw [hr.σ _ _ hc]; exact hp.2⟩
    · cases h
  case h_17 =>
    simp only [Option.some.injEq] at h; subst h
    exact ⟨hp.1, fun i r hr' => (hp.2 i r hr').mono hr.z⟩
  case h_18 =>
    simp only [Option.some.injEq] at h; subst h
    obtain ⟨v, e, hs⟩ := hp
    exact ⟨v, e, hs.mono hr.z⟩
  case h_19 =>
    split at h
    · rename_i c hc
      simp only [Option.some.injEq] at h; subst h
      exact ⟨hr.al _ _ hc hp.1, by rw [hr.σ _ _ hc]; exact hp.2⟩
    · cases h
  case h_20 =>
    simp only [Option.some.injEq] at h; subst h
    obtain ⟨v, e, hs⟩ := hp
    exact ⟨v, e, hs.mono hr.z⟩
  case h_23 =>
    split at h
    · rename_i c hc
      simp only [Option.some.injEq] at h; subst h
      exact ⟨hr.al _ _ hc hp.1, by rw [hr.σ _ _ hc]; exact hp.2⟩
    · cases h
  case h_24 =>
    split at h
    · rename_i cs hc
      simp only [Option.some.injEq] at h; subst h
      obtain ⟨h1, h2⟩ := rnL_sound hr hc hp.1
      exact ⟨h1, by rw [cloV, h2]; exact hp.2⟩
    · cases h
  case h_25 =>
    simp only [Option.some.injEq] at h; subst h
    exact ⟨hp.1, hp.2.1, fun i v hv => (hp.2.2 i v hv).mono hr.z⟩
  case h_26 =>
    split at h
    · rename_i ds hd
      simp only [Option.some.injEq] at h; subst h
      exact rnC_sound hr hd hp
    · cases h
  case h_27 => cases h
  all_goals (simp only [Option.some.injEq] at h; subst h; exact hp)

theorem rnPs_sound {ρ : Nat → Option Nat} {E F : Env} (hr : RenF ρ E F) : ∀ {ps qs : List (Part D.τ)} {cs : List Value}, rnPs D ρ ps = some qs → PartsRel D E ps cs → PartsRel D F qs cs
  | [], qs, cs, h, hp => by
    simp only [rnPs, Option.some.injEq] at h; subst h; exact hp
  | p :: ps, qs, cs, h, ⟨c1, c2, e, h1, h2⟩ => by
    simp only [rnPs] at h
    split at h
    · rename_i q hq
      split at h
      · rename_i qs' hqs
        simp only [Option.some.injEq] at h; subst h
        exact ⟨c1, c2, e, rnP_sound hr hq h1, rnPs_sound hr hqs h2⟩
      · cases h
    · cases h

theorem rn0_sound {ρ : Nat → Option Nat} {E F : Env} (hr : RenF ρ E F) {a b : A0 D.τ} {v : Value} (h : rn0 D ρ a = some b) (hp : A0Rel D E a v) : A0Rel D F b v := by
  unfold rn0 at h
  split at h
  · split at h
    · rename_i q hq
      simp only [Option.some.injEq] at h; subst h
      exact ⟨hp.1, rnP_sound hr hq hp.2⟩
    · cases h
  · split at h
    · rename_i q hq
      simp only [Option.some.injEq] at h; subst h
      obtain ⟨cs, e, hps⟩ := hp
      exact ⟨cs, e, rnPs_sound hr hq hps⟩
    · cases h

theorem rn0s_sound {ρ : Nat → Option Nat} {E F : Env} (hr : RenF ρ E F) : ∀ {ps qs : List (A0 D.τ)} {vs : List Value}, rn0s D ρ ps = some qs → A0sRel D E ps vs → A0sRel D F qs vs
  | [], qs, cs, h, hp => by
    simp only [rn0s, Option.some.injEq] at h; subst h; exact hp
  | p :: ps, qs, cs, h, ⟨v, us, e, h1, h2⟩ => by
    simp only [rn0s] at h
    split at h
    · rename_i q hq
      split at h
      · rename_i qs' hqs
        simp only [Option.some.injEq] at h; subst h
        exact ⟨v, us, e, rn0_sound hr hq h1, rn0s_sound hr hqs h2⟩
      · cases h
    · cases h

theorem rnA_sound {ρ : Nat → Option Nat} {E F : Env} (hr : RenF ρ E F) {a b : AV D.τ} {v : Value} (h : rnA D ρ a = some b) (hp : AVRel D E a v) : AVRel D F b v := by
  unfold rnA at h
  split at h
  · split at h
    · rename_i q hq
      simp only [Option.some.injEq] at h; subst h
      exact rn0_sound hr hq hp
    · cases h
  · split at h
    · rename_i q hq
      simp only [Option.some.injEq] at h; subst h
      obtain ⟨vs, e, hps⟩ := hp
      exact ⟨vs, e, rn0s_sound hr hq hps⟩
    · cases h

theorem rnB_al {ρ : Nat → Option Nat} {s t : BoxSt D.τ} (h : rnB D ρ s = some t) : s.al ∧ t.al := by
  unfold rnB at h
  split at h
  · cases h
  · simp only [Option.some.injEq] at h; subst h; exact ⟨trivial, trivial⟩
  · split at h
    · simp only [Option.some.injEq] at h; subst h; exact ⟨trivial, trivial⟩
    · cases h
  · split at h
    · simp only [Option.some.injEq] at h; subst h; exact ⟨trivial, trivial⟩
    · cases h
  · simp only [Option.some.injEq] at h; subst h; exact ⟨trivial, trivial⟩
  · split at h
    · simp only [Option.some.injEq] at h; subst h; exact ⟨trivial, trivial⟩
    · cases h

theorem rnB_blk {ρ : Nat → Option Nat} {E F : Env} {b c : Nat} (hσ : F.σ c = E.σ b) (hν : F.ν c = E.ν b) (hφ : F.σ.φ c = E.σ.φ b) {s t : BoxSt D.τ} (h : rnB D ρ s = some t) {g : Nat} : Fp D F c t g ↔ Fp D E b s g := by
  unfold rnB at h
  split at h
  · cases h
  · simp only [Option.some.injEq] at h; subst h; exact Iff.rfl
  · split at h
    · simp only [Option.some.injEq] at h; subst h; simp only [Fp, blk, hσ]
    · cases h
  · split at h
    · simp only [Option.some.injEq] at h; subst h; simp only [Fp, blk, hν]
    · cases h
  · simp only [Option.some.injEq] at h; subst h; simp only [Fp, hφ]
  · split at h
    · simp only [Option.some.injEq] at h; subst h; simp only [Fp, hφ]
    · cases h

theorem rnP_esz {ρ : Nat → Option Nat} {p q : Part D.τ} (h : rnP D ρ p = some q) : esz D q = esz D p := by
  unfold rnP at h
  repeat' split at h
  all_goals first
    | (simp only [Option.some.injEq] at h; subst h; rfl)
    | (rename_i hd; simp only [Option.some.injEq] at h; subst h; exact rnC_len hd)
    | cases h

theorem ValRel.ren {ρ : Nat → Option Nat} {E F : Env} (hr : RenF ρ E F) {agg : Bool} {ps qs : List (Part D.τ)} {v : Value} (h : rnPs D ρ ps = some qs) (hv : ValRel D E agg ps v) : ValRel D F agg qs v := by
  cases agg with
  | true => obtain ⟨cs, e, hp⟩ := hv; exact ⟨cs, e, rnPs_sound hr h hp⟩
  | false => exact ⟨hv.1, rnPs_sound hr h hv.2⟩

theorem FamRel.ren {X : Env → World → Nat → BoxSt D.τ → Prop} (hX : Stays X) {E F : Env} (hz : E.σ.le F.σ) {w : World} {b c k : Nat} (hσ : F.σ c = E.σ b) (hν : F.ν c = E.ν b) (hφ : F.σ.φ c = E.σ.φ b)
    {es : List (Rec × Ob)} {out out' : Option (Rec × List (Part D.τ))} (ho : (out = none ∧ out' = none) ∨ ∃ x ps qs, out = some (x, ps) ∧ out' = some (x, qs) ∧ ∀ agg v, ValRel D E agg ps v → ValRel D F agg qs v)
    (h : FamRel D X E w b k es out) : FamRel D X F w c k es out' := by
  obtain ⟨fd, hfd, vs, Fs, hc, hn, hl, hlt, hic, hou, hen, hfs, hdj⟩ := h
  have hicont : ∀ g, IsCont D fd F c g ↔ IsCont D fd E b g := by
    intro g
    unfold IsCont
    cases fd.row <;> simp only [hσ, hν]
  refine ⟨fd, hfd, vs, Fs, ?_, hn, hl, fun g hg => hlt g (by rw [← hφ]; exact hg), fun g hg => by rw [hφ]; exact hic g ((hicont g).1 hg), ?_, fun i key ob v hi hv => ?_, fun i g hg => ?_, hdj⟩
  · unfold ContRel at hc ⊢
    cases hr : fd.row with
    | true =>
      simp only [hr] at hc ⊢
      rw [hν]
      exact hc
    | false =>
      simp only [hr] at hc ⊢
      rw [hσ]
      exact hc
  · rintro x qs e
    rcases ho with ⟨_, h2⟩ | ⟨y, ps, qs', h1, h2, _⟩
    · rw [h2] at e; cases e
    · rw [h2] at e
      simp only [Option.some.injEq, Prod.mk.injEq] at e
      rw [← e.1]
      exact hou y ps h1
  · rcases hen i key ob v hi hv with ⟨ps, h1, h2⟩ | ⟨h1, h2⟩
    · rcases ho with ⟨h3, _⟩ | ⟨y, ps', qs', h3, h4, h5⟩
      · rw [h3] at h1; cases h1
      · rw [h3] at h1
        simp only [Option.some.injEq, Prod.mk.injEq] at h1
        obtain ⟨rfl, rfl⟩ := h1
        exact .inl ⟨qs', h4, h5 _ _ h2⟩
    · refine .inr ⟨fun qs e => ?_, h2.mono hX hz fun _ _ => rfl⟩
      rcases ho with ⟨_, h4⟩ | ⟨y, ps', qs', h3, h4, _⟩
      · rw [h4] at e; cases e
      · rw [h4] at e
        simp only [Option.some.injEq, Prod.mk.injEq] at e
        obtain ⟨rfl, rfl⟩ := e
        exact h1 ps' h3
  · rw [hφ]
    exact ⟨(hfs i g hg).1, fun h => (hfs i g hg).2 ((hicont g).1 h)⟩

theorem rnB_rel {ρ : Nat → Option Nat} {E F : Env} (hr : RenF ρ E F) {w : World} {b c : Nat} (hσ : F.σ c = E.σ b) (hν : F.ν c = E.ν b) (hφ : F.σ.φ c = E.σ.φ b) {s t : BoxSt D.τ} (h : rnB D ρ s = some t) (hb : BoxRel D E w b s) : BoxRel D F w c t := by
  unfold rnB at h
  split at h
  · cases h
  · simp only [Option.some.injEq] at h; subst h; trivial
  · split at h
    · rename_i q hq
      simp only [Option.some.injEq] at h; subst h
      obtain ⟨cs, h1, h2⟩ := hb
      exact ⟨cs, by rw [hσ]; exact h1, rnPs_sound hr hq h2⟩
    · cases h
  · split at h
    · rename_i q hq
      simp only [Option.some.injEq] at h; subst h
      obtain ⟨n, xs, h1, h2, h3⟩ := hb
      exact ⟨n, xs, by rw [hν, rnP_esz hq]; exact h1, rnP_sound hr hq h2, by rw [hν]; exact h3⟩
    · cases h
  · simp only [Option.some.injEq] at h; subst h
    exact FamRel.ren (XK_stays _) hr.z hσ hν hφ (.inl ⟨rfl, rfl⟩) hb
  · split at h
    · rename_i qs hq
      simp only [Option.some.injEq] at h; subst h
      exact FamRel.ren (XK_stays _) hr.z hσ hν hφ (.inr ⟨_, _, _, rfl, rfl, fun agg v hv => hv.ren hr hq⟩) hb
    · cases h

theorem rnBs_get {ρ : Nat → Option Nat} : ∀ {ss ts : List (BoxSt D.τ)}, rnBs D ρ ss = some ts → ts.length = ss.length ∧ ∀ (i : Nat) s, ss[i]? = some s → ∃ t, ts[i]? = some t ∧ rnB D ρ s = some t
  | [], ts, h => by
    simp only [rnBs, Option.some.injEq] at h; subst h
    exact ⟨rfl, fun i s h => by cases h⟩
  | p :: ps, ts, h => by
    simp only [rnBs] at h
    split at h
    · rename_i q hq
      split at h
      · rename_i qs' hqs
        simp only [Option.some.injEq] at h; subst h
        obtain ⟨h1, h2⟩ := rnBs_get hqs
        refine ⟨by simp [h1], fun i s hs => ?_⟩
        cases i with
        | zero => simp only [List.getElem?_cons_zero, Option.some.injEq] at hs; subst hs; exact ⟨q, rfl, hq⟩
        | succ i => exact h2 i s (by simpa using hs)
      · cases h
    · cases h

theorem idxFrom_spec : ∀ {cs : List Nat} {i j b : Nat}, idxFrom i cs b = some j → i ≤ j ∧ cs[j - i]? = some b
  | [], i, j, b, h => by cases h
  | c :: cs, i, j, b, h => by
    simp only [idxFrom] at h
    cases hb : Nat.beq b c <;> simp only [hb, cond_true, cond_false] at h
    · obtain ⟨h1, h2⟩ := idxFrom_spec h
      refine ⟨by omega, ?_⟩
      rw [show j - i = (j - (i + 1)) + 1 from by omega]
      exact h2
    · simp only [Option.some.injEq] at h
      subst h
      have := Nat.eq_of_beq_eq_true hb
      subst this
      exact ⟨Nat.le_refl _, by simp⟩

theorem idx_spec {ids : List Nat} {b i : Nat} (h : idx ids b = some i) : ids[i]? = some b := by
  have := (idxFrom_spec h).2
  simpa using this

theorem nodupB_spec : ∀ {bs : List Nat}, nodupB bs = true → bs.Nodup
  | [], _ => List.nodup_nil
  | b :: bs, h => by
    simp only [nodupB, Bool.and_eq_true, Bool.not_eq_true'] at h
    exact List.nodup_cons.2 ⟨any_beq_false h.1, nodupB_spec h.2⟩

theorem newIds_get : ∀ (n nid i : Nat), (newIds nid n)[i]? = if i < n then some (nid + i) else none
  | 0, nid, i => by simp [newIds]
  | n + 1, nid, 0 => by simp [newIds]
  | n + 1, nid, i + 1 => by
    simp only [newIds, List.getElem?_cons_succ]
    rw [newIds_get n (nid + 1) i]
    by_cases h : i < n
    · rw [if_pos h, if_pos (by omega)]; congr 1; omega
    · rw [if_neg h, if_neg (by omega)]

theorem newIds_len : ∀ (n nid : Nat), (newIds nid n).length = n
  | 0, _ => rfl
  | n + 1, nid => by simp [newIds, newIds_len n]

theorem bx_zip : ∀ (js : List Nat) (us : List (BoxSt D.τ)) (S : St D.τ) (c : Nat), js.Nodup → js.length = us.length →
    (∀ i : Nat, js[i]? = some c → (S.bx (zipU js us)).box c = (us[i]?).getD .un) ∧ (c ∉ js → (S.bx (zipU js us)).box c = S.box c)
  | [], us, S, c, _, _ => ⟨fun i h => by simp at h, fun _ => rfl⟩
  | j :: js, [], S, c, _, hl => by simp at hl
  | j :: js, u :: us, S, c, hn, hl => by
    rw [List.nodup_cons] at hn
    obtain ⟨ih1, ih2⟩ := bx_zip js us (S.upd (.box j u)) c hn.2 (by simpa using hl)
    refine ⟨fun i hi => ?_, fun hc => ?_⟩
    · show ((S.upd (.box j u)).bx (zipU js us)).box c = _
      cases i with
      | zero =>
        simp only [List.getElem?_cons_zero, Option.some.injEq] at hi
        subst hi
        rw [ih2 hn.1, upd_box_same]; rfl
      | succ i => rw [ih1 i (by simpa using hi)]; simp
    · show ((S.upd (.box j u)).bx (zipU js us)).box c = _
      simp only [List.mem_cons, not_or] at hc
      rw [ih2 hc.2, upd_box_other S _ hc.1]

theorem bst_box {τ : Type} (n : Nat) (bs : List (BoxSt τ)) (i : Nat) : (bst n bs).box i = (bs[i]?).getD .un := by
  show (match bs[i]? with | some s => s | none => .un) = _
  cases bs[i]? <;> rfl

/-- A call works on some boxes of its caller's. -/
theorem lands_op {M : Mem} {w0 : World} {σ : Loc} {ν : Nat → Value} {S : St D.τ} {a : Act} {w w' : World} (hR : RR D M w0 σ ν S w) (hA : RA D M w0 σ ν S a)
    {ids : List Nat} (hnd : ids.Nodup) {bs : List (BoxSt D.τ)} (hbs : rnBs D (idx ids) (ids.map S.box) = some bs) {nid : Nat} {bs' us : List (BoxSt D.τ)} {r r' : AV D.τ} {js : List Nat} (hjs : js = ids ++ newIds nid (bs'.length - ids.length)) (hlen : ids.length ≤ bs'.length)
    (hun : ∀ i, i < bs'.length - ids.length → S.box (nid + i) = .un) (hr : rnA D (fun i => js[i]?) r = some r') (hus : rnBs D (fun i => js[i]?) bs' = some us) {v : Value} {σ' : Loc} {ν' : Nat → Value} {qs : List Prop}
    (hR' : RR D (opMem D w ⟨fun i => σ (ids.getD i 0), σ.zw, σ.zm, fun i => σ.φ (ids.getD i 0)⟩ (fun i => ν (ids.getD i 0)) bs) w σ' ν' (bst bs.length bs') w')
    (hv : AVRel D ((bst bs.length bs').env D (opMem D w ⟨fun i => σ (ids.getD i 0), σ.zw, σ.zm, fun i => σ.φ (ids.getD i 0)⟩ (fun i => ν (ids.getD i 0)) bs) w σ' ν') r v) :
    Lands M w0 S a ⟨r', zipU js us, qs⟩ v w' := by
  obtain ⟨hbl, hbg⟩ := rnBs_get hbs
  obtain ⟨hul, hug⟩ := rnBs_get hus
  rw [List.length_map] at hbl
  have hal : ∀ b, b ∈ ids → (S.box b).al := by
    intro b hb
    obtain ⟨i, hi⟩ := List.mem_iff_getElem?.1 hb
    obtain ⟨t, _, ht⟩ := hbg i (S.box b) (by rw [List.getElem?_map, hi]; rfl)
    exact (rnB_al ht).1
  have hjl : js.length = bs'.length := by rw [hjs, List.length_append, newIds_len]; omega
  have hjget : ∀ (i : Nat) c, js[i]? = some c → (i < ids.length ∧ ids[i]? = some c) ∨ (ids.length ≤ i ∧ i < bs'.length ∧ c = nid + (i - ids.length) ∧ S.box c = .un) := by
    intro i c hi
    rw [hjs] at hi
    by_cases h : i < ids.length
    · rw [List.getElem?_append_left h] at hi; exact .inl ⟨h, hi⟩
    · rw [List.getElem?_append_right (by omega), newIds_get] at hi
      by_cases h2 : i - ids.length < bs'.length - ids.length
      · rw [if_pos h2] at hi
        simp only [Option.some.injEq] at hi
        subst hi
        exact .inr ⟨by omega, by omega, rfl, hun _ h2⟩
      · rw [if_neg h2] at hi; cases hi
  have hjnd : ∀ (i i' : Nat) c, js[i]? = some c → js[i']? = some c → i = i' := by
    intro i i' c h1 h2
    rcases hjget i c h1 with ⟨q1, q2⟩ | ⟨q1, q2, q3, q4⟩ <;> rcases hjget i' c h2 with ⟨p1, p2⟩ | ⟨p1, p2, p3, p4⟩
    · exact (List.getElem?_inj q1 hnd).1 (by rw [q2, p2])
    · have := hal c (List.mem_of_getElem? q2); rw [p4] at this; exact this.elim
    · have := hal c (List.mem_of_getElem? p2); rw [q4] at this; exact this.elim
    · omega
  have hjnodup : js.Nodup := by
    refine List.pairwise_iff_getElem.2 fun i j hi hj hij heq => ?_
    have h1 : js[i]? = some js[i] := List.getElem?_eq_getElem hi
    have h2 : js[j]? = some js[i] := by rw [heq]; exact List.getElem?_eq_getElem hj
    have := hjnd i j _ h1 h2
    omega
  -- what the callee may write
  have hMp : ∀ g, (opMem D w ⟨fun i => σ (ids.getD i 0), σ.zw, σ.zm, fun i => σ.φ (ids.getD i 0)⟩ (fun i => ν (ids.getD i 0)) bs).f g ↔ ∃ b ∈ ids, Fp D (S.env D M w0 σ ν) b (S.box b) g := by
    intro g
    constructor
    · rintro ⟨i, hi⟩
      rw [bst_box] at hi
      cases hbi : bs[i]? with
      | none => rw [hbi] at hi; cases hi
      | some t =>
        rw [hbi, Option.getD_some] at hi
        have hlt : i < ids.length := by have := (List.getElem?_eq_some_iff.1 hbi).1; omega
        have hidi : ids[i]? = some ids[i] := List.getElem?_eq_getElem hlt
        obtain ⟨t', ht', hrt⟩ := hbg i (S.box ids[i]) (by rw [List.getElem?_map, hidi]; rfl)
        rw [hbi] at ht'
        simp only [Option.some.injEq] at ht'
        subst ht'
        refine ⟨ids[i], List.getElem_mem hlt, ?_⟩
        exact (rnB_blk (E := S.env D M w0 σ ν) (F := ⟨fun _ => True, ⟨fun i => σ (ids.getD i 0), σ.zw, σ.zm, fun i => σ.φ (ids.getD i 0)⟩, fun i => ν (ids.getD i 0), w, fun _ => False, none⟩) (b := ids[i]) (c := i) (by show σ (ids.getD i 0) = σ ids[i]; simp [hidi, List.getD_eq_getElem?_getD]) (by show ν (ids.getD i 0) = ν ids[i]; simp [hidi, List.getD_eq_getElem?_getD]) (by show σ.φ (ids.getD i 0) = σ.φ ids[i]; simp [hidi, List.getD_eq_getElem?_getD]) hrt).1 hi
    · rintro ⟨b, hb, hg⟩
      obtain ⟨i, hi⟩ := List.mem_iff_getElem?.1 hb
      obtain ⟨t, ht, hrt⟩ := hbg i (S.box b) (by rw [List.getElem?_map, hi]; rfl)
      refine ⟨i, ?_⟩
      rw [bst_box, ht, Option.getD_some]
      refine (rnB_blk (E := S.env D M w0 σ ν) (F := ⟨fun _ => True, ⟨fun i => σ (ids.getD i 0), σ.zw, σ.zm, fun i => σ.φ (ids.getD i 0)⟩, fun i => ν (ids.getD i 0), w, fun _ => False, none⟩) (b := b) (c := i) (by show σ (ids.getD i 0) = σ b; simp [hi, List.getD_eq_getElem?_getD]) (by show ν (ids.getD i 0) = ν b; simp [hi, List.getD_eq_getElem?_getD]) (by show σ.φ (ids.getD i 0) = σ.φ b; simp [hi, List.getD_eq_getElem?_getD]) hrt).2 hg
  generalize hMc : opMem D w ⟨fun i => σ (ids.getD i 0), σ.zw, σ.zm, fun i => σ.φ (ids.getD i 0)⟩ (fun i => ν (ids.getD i 0)) bs = Mc at hR' hv hMp
  have hpinc : ∀ i, Mc.pin i = (σ (ids.getD i 0), ν (ids.getD i 0)) := by rw [← hMc]; intro i; rfl
  have hzmc : Mc.zm = σ.zm ∧ Mc.zw = σ.zw := by rw [← hMc]; exact ⟨rfl, rfl⟩
  -- the new names
  let σ2 : Loc := ⟨fun c => match idx js c with | some i => σ' i | none => σ c, σ'.zw, σ'.zm, fun c => match idx js c with | some i => σ'.φ i | none => σ.φ c⟩
  let ν2 : Nat → Value := fun c => match idx js c with | some i => ν' i | none => ν c
  have hin : ∀ (i : Nat) c, js[i]? = some c → σ2 c = σ' i ∧ ν2 c = ν' i ∧ σ2.φ c = σ'.φ i := by
    intro i c hi
    have hx : ∃ j, idx js c = some j := by
      have : ∀ (cs : List Nat) (n : Nat), c ∈ cs → ∃ j, idxFrom n cs c = some j := by
        intro cs
        induction cs with
        | nil => intro n h; cases h
        | cons d cs ih =>
          intro n h
          simp only [idxFrom]
          cases hb : Nat.beq c d
          · rcases List.mem_cons.1 h with rfl | h
            · simp at hb
            · exact ih (n + 1) h
          · exact ⟨n, rfl⟩
      exact this js 0 (List.mem_of_getElem? hi)
    obtain ⟨j, hj⟩ := hx
    have := hjnd i j c hi (idx_spec hj)
    subst this
    exact ⟨by show (match idx js c with | some i => σ' i | none => σ c) = σ' i; rw [hj], by show (match idx js c with | some i => ν' i | none => ν c) = ν' i; rw [hj], by show (match idx js c with | some i => σ'.φ i | none => σ.φ c) = σ'.φ i; rw [hj]⟩
  have hout : ∀ c, c ∉ js → σ2 c = σ c ∧ ν2 c = ν c ∧ σ2.φ c = σ.φ c := by
    intro c hc
    have hx : idx js c = none := by
      cases h : idx js c with
      | none => rfl
      | some i => exact (hc (List.mem_of_getElem? (idx_spec h))).elim
    exact ⟨by show (match idx js c with | some i => σ' i | none => σ c) = σ c; rw [hx], by show (match idx js c with | some i => ν' i | none => ν c) = ν c; rw [hx], by show (match idx js c with | some i => σ'.φ i | none => σ.φ c) = σ.φ c; rw [hx]⟩
  have hold : ∀ (i : Nat) c, ids[i]? = some c → σ2 c = σ c ∧ ν2 c = ν c := by
    intro i c hi
    have hlt : i < ids.length := (List.getElem?_eq_some_iff.1 hi).1
    have hji : js[i]? = some c := by rw [hjs, List.getElem?_append_left hlt]; exact hi
    obtain ⟨h1, h2, _⟩ := hin i c hji
    obtain ⟨p1, p2, _⟩ := hR'.pins i (by show i < bs.length; omega)
    have hgd : ids.getD i 0 = c := by simp [hi, List.getD_eq_getElem?_getD]
    rw [hpinc, hgd] at p1 p2
    exact ⟨h1.trans p1, h2.trans p2⟩
  unfold Lands
  simp only
  generalize hS' : S.bx (zipU js us) = S'
  have hsl := bx_slot (zipU js us) S
  have hnp := bx_np (zipU js us) S
  rw [hS'] at hsl hnp
  have hbz : ∀ c, (∀ i : Nat, js[i]? = some c → S'.box c = (us[i]?).getD .un) ∧ (c ∉ js → S'.box c = S.box c) := fun c => by rw [← hS']; exact bx_zip js us S c hjnodup (by omega)
  have hbi : ∀ (i : Nat) c, js[i]? = some c → ∃ s t, bs'[i]? = some s ∧ us[i]? = some t ∧ rnB D (fun i => js[i]?) s = some t ∧ S'.box c = t := by
    intro i c hi
    have hlt : i < bs'.length := by have := (List.getElem?_eq_some_iff.1 hi).1; omega
    obtain ⟨t, ht, hrt⟩ := hug i bs'[i] (List.getElem?_eq_getElem hlt)
    exact ⟨_, t, List.getElem?_eq_getElem hlt, ht, hrt, by rw [(hbz c).1 i hi, ht]; rfl⟩
  have hz : σ.le σ2 := by
    intro g hg
    have := hR'.z0 g (by rw [hzmc.1]; exact hg)
    exact ⟨this.1, by rw [← hzmc.2]; exact this.2⟩
  have hle : (S.env D M w0 σ ν).le (S'.env D M w0 σ2 ν2) := by
    refine ⟨fun c h => ?_, fun c h => ?_, fun c h => ?_, rfl, rfl, ⟨rfl, rfl⟩, hz⟩
    · show (S'.box c).al
      by_cases hc : c ∈ js
      · obtain ⟨i, hi⟩ := List.mem_iff_getElem?.1 hc
        obtain ⟨s, t, _, _, h3, h4⟩ := hbi i c hi
        rw [h4]; exact (rnB_al h3).2
      · rw [(hbz c).2 hc]; exact h
    · by_cases hc : c ∈ js
      · obtain ⟨i, hi⟩ := List.mem_iff_getElem?.1 hc
        rcases hjget i c hi with ⟨_, q⟩ | ⟨_, _, _, q⟩
        · exact (hold i c q).1
        · have h' : (S.box c).al := h
          rw [q] at h'; exact h'.elim
      · exact (hout c hc).1
    · by_cases hc : c ∈ js
      · obtain ⟨i, hi⟩ := List.mem_iff_getElem?.1 hc
        rcases hjget i c hi with ⟨_, q⟩ | ⟨_, _, _, q⟩
        · exact (hold i c q).2
        · have h' : (S.box c).al := h
          rw [q] at h'; exact h'.elim
      · exact (hout c hc).2.1
  have hren : RenF (fun i => js[i]?) ((bst bs.length bs').env D Mc w σ' ν') (S'.env D M w0 σ2 ν2) := by
    refine ⟨fun i c hi _ => ?_, fun i c hi => (hin i c hi).1, fun i c hi => (hin i c hi).2.1, Loc.le_refl _⟩
    obtain ⟨s, t, _, _, h3, h4⟩ := hbi i c hi
    show (S'.box c).al
    rw [h4]; exact (rnB_al h3).2
  have hblk : ∀ (i : Nat) c g, js[i]? = some c → Fp D (S'.env D M w0 σ2 ν2) c (S'.box c) g → Fp D ((bst bs.length bs').env D Mc w σ' ν') i ((bst bs.length bs').box i) g := by
    intro i c g hi hg
    obtain ⟨s, t, h1, _, h3, h4⟩ := hbi i c hi
    rw [h4] at hg
    rw [bst_box, h1, Option.getD_some]
    exact (rnB_blk (E := (bst bs.length bs').env D Mc w σ' ν') (F := S'.env D M w0 σ2 ν2) (hin i c hi).1 (hin i c hi).2.1 (hin i c hi).2.2 h3).1 hg
  have hnoMc : ∀ c g, c ∉ js → Fp D (S.env D M w0 σ ν) c (S.box c) g → ¬ Mc g := by
    intro c g hc hg hm
    obtain ⟨b, hb, hbg'⟩ := (hMp g).1 hm
    refine hR.disj c b g (fun e => hc ?_) hg hbg'
    subst e
    rw [hjs]; exact List.mem_append_left _ hb
  have hbo : ∀ c g, c ∉ js → Fp D (S'.env D M w0 σ2 ν2) c (S'.box c) g → Fp D (S.env D M w0 σ ν) c (S.box c) g := by
    intro c g hc hg
    rw [(hbz c).2 hc] at hg
    cases hs : S.box c <;> rw [hs] at hg <;> simp only [Fp, blk] at hg ⊢
    · cases hg
    · cases hg
    · rw [← hg]; exact congrArg some (hout c hc).1.symm
    · rw [← hg]; exact congrArg Value.ownBlock (hout c hc).2.1.symm
    · rw [show (S'.env D M w0 σ2 ν2).σ.φ c = σ.φ c from (hout c hc).2.2] at hg; exact hg
  have hlo : ∀ c g, c ∈ js → Fp D (S'.env D M w0 σ2 ν2) c (S'.box c) g → w.heap.size ≤ g ∨ Mc g := by
    intro c g hc hg
    obtain ⟨i, hi⟩ := List.mem_iff_getElem?.1 hc
    exact hR'.lo i g (hblk i c g hi hg)
  refine ⟨σ2, ν2, hR.step hle (fun c => c ∈ js) (fun c hc => ?_) (fun c hc => .inl ⟨(hbz c).2 hc, fun g hg => ?_⟩) (fun c c' g hc hne h1 h2 => ?_) (fun c g hc hg => ?_) ?_ hnp hR'.zk (fun c g hc hg => ?_) (fun c g hc hg _ hz' => ?_) (fun g hg => ?_) (fun c hc => (hout c hc).2.2), hA.mono hle hsl.1 hsl.2, rnA_sound hren hr hv⟩
  · obtain ⟨i, hi⟩ := List.mem_iff_getElem?.1 hc
    obtain ⟨s, t, h1, _, h3, h4⟩ := hbi i c hi
    have hb := hR'.boxes i
    rw [bst_box, h1, Option.getD_some] at hb
    rw [h4]
    exact rnB_rel hren (hin i c hi).1 (hin i c hi).2.1 (hin i c hi).2.2 h3 hb
  · exact hR'.kept.block g (blk_lt hR hg) (hnoMc c g hc hg)
  · by_cases hc' : c' ∈ js
    · obtain ⟨i, hi⟩ := List.mem_iff_getElem?.1 hc
      obtain ⟨i', hi'⟩ := List.mem_iff_getElem?.1 hc'
      refine hR'.disj i i' g (fun e => hne ?_) (hblk i c g hi h1) (hblk i' c' g hi' h2)
      subst e
      rw [hi] at hi'
      exact Option.some.inj hi'
    · have h3 := hbo c' g hc' h2
      rcases hlo c g hc h1 with h | h
      · have := blk_lt hR h3; omega
      · exact hnoMc c' g hc' h3 h
  · rcases hlo c g hc hg with h | h
    · exact .inl (Nat.le_trans hR.kept.size h)
    · obtain ⟨b, _, hb⟩ := (hMp g).1 h
      exact hR.lo b g hb
  · refine ⟨hR'.kept.os.trans hR.kept.os, hR'.kept.tape.trans hR.kept.tape, hR'.kept.output.trans hR.kept.output, Nat.le_trans hR.kept.size hR'.kept.size, fun g hg hm => ?_⟩
    rw [← hR.kept.block g hg hm]
    refine hR'.kept.block g (Nat.lt_of_lt_of_le hg hR.kept.size) (fun hc => ?_)
    obtain ⟨b, _, hb⟩ := (hMp g).1 hc
    rcases hR.lo b g hb with h | h
    · omega
    · exact hm h
  · obtain ⟨i, hi⟩ := List.mem_iff_getElem?.1 hc
    exact hR'.zd i g (hblk i c g hi hg)
  · rcases hR'.zn g hz' with h | h | h
    · rw [hzmc.1] at h; exact hR.zd c g hg h
    · have := blk_lt hR hg; omega
    · exact hnoMc c g hc hg h
  · rcases hR'.zn g hg with h | h | h
    · rw [hzmc.1] at h; exact .inl h
    · exact .inr (.inl (Nat.le_trans hR.kept.size h))
    · obtain ⟨b, _, hb⟩ := (hMp g).1 h
      exact .inr (hR.lo b g hb)

end
end Go.Abs

/- An evaluator over descriptions of values: regions, in order and in any order. -/
import Derived.Test.YtakigppkbolmnaaAbsU
namespace Go.Abs
open Go.RowKit
section
variable {P : Program} {D : Dom}

theorem app_append {τ : Type} : ∀ (us vs : List (Upd τ)) (S : St τ), S.app (us ++ vs) = (S.app us).app vs
  | [], _, _ => rfl
  | _ :: us, vs, _ => app_append us vs _

/-- A slot gets a value. -/
theorem put_slot {M : Mem} {w0 : World} {σ : Loc} {ν : Nat → Value} {S : St D.τ} {a : Act} {w : World} (hR : RR D M w0 σ ν S w) (hA : RA D M w0 σ ν S a) {o : Oper} {x : AV D.τ} {v : Value}
    (hv : AVRel D (S.env D M w0 σ ν) x v) (hd : dstOk S.nt o = true) : R D M w0 (S.app (match o.dst with | some d => [Upd.slot d (some x)] | none => [])) (a.put o.dst v) w := by
  unfold dstOk at hd
  cases ho : o.dst with
  | none => exact ⟨σ, ν, hR, hA⟩
  | some d =>
    rw [ho] at hd
    have hlt : d < S.nt := Nat.lt_of_lt_of_eq (Nat.le_of_ble_eq_true hd) rfl
    refine ⟨σ, ν, ⟨hR.boxes, hR.disj, hR.lo, hR.kept, hR.zk, hR.zd, hR.pins, hR.glob, hR.z0, hR.zn⟩, ?_, hA.defers, fun t av h => ?_⟩
    · show (a.tmps.setIfInBounds d v).size = S.nt
      rw [Array.size_setIfInBounds]; exact hA.size
    · show AVRel D (S.env D M w0 σ ν) av ((a.tmps.setIfInBounds d v).getD t undef)
      have h' : (bif Nat.beq t d then some x else S.slot t) = some av := h
      by_cases ht : t = d
      · subst ht
        have hb : Nat.beq t t = true := by simp
        rw [hb] at h'
        simp only [cond_true, Option.some.injEq] at h'
        subst h'
        have : (a.tmps.setIfInBounds t v).getD t undef = v := by
          have hs : t < a.tmps.size := by rw [hA.size]; exact hlt
          simp [Array.getD, hs]
        rw [this]; exact hv
      · rw [beq_ne ht] at h'
        simp only [cond_false] at h'
        have : (a.tmps.setIfInBounds d v).getD t undef = a.tmps.getD t undef := by
          simp only [Array.getD_eq_getD_getElem?]
          rw [Array.getElem?_setIfInBounds_ne (Ne.symm ht)]
        rw [this]; exact hA.slots t av h'

theorem settle_lands {M : Mem} {w0 : World} {S : St D.τ} {a : Act} {r : Res D.τ} {v : Value} {w : World} (d : Dec D.τ) (h : Lands M w0 S a r v w) (hp : ∀ p ∈ (settle d r).ps, p) : Lands M w0 S a (settle d r) v w := by
  unfold settle at *
  split at hp
  · rename_i v' b us ps
    have hb : b = v' := hp _ (by simp)
    subst hb
    exact h
  · exact h

theorem settle_ps {τ : Type} (d : Dec τ) (r : Res τ) (h : ∀ p ∈ (settle d r).ps, p) : ∀ p ∈ r.ps, p := by
  unfold settle at h
  split at h
  · intro p hp; exact h p (List.mem_cons_of_mem _ hp)
  · exact h

theorem lands_put {M : Mem} {w0 : World} {S : St D.τ} {a : Act} {r : Res D.τ} {v : Value} {w : World} {o : Oper} (h : Lands M w0 S a r v w) (hd : dstOk S.nt o = true) : R D M w0 (S.app (r.upds o)) (a.put o.dst v) w := by
  obtain ⟨σ, ν, hR, hA, hv⟩ := h
  unfold Res.upds
  rw [app_append]
  have hnt : (S.bx r.us).nt = S.nt := (bx_slot r.us S).2
  exact put_slot hR hA hv (by rw [hnt]; exact hd)

theorem yielded_slot {ops : Array Oper} {a : Act} {j t : Nat} (hj : (ops[j]?).bind (·.dst) = some t) {b : Bool} (h : a.tmps.getD t undef = .bool b) : yielded ops a.tmps j = some b := by
  unfold yielded
  rw [hj]
  simp only [Option.bind_some]
  rw [Array.getD_eq_getD_getElem?] at h
  cases ht : a.tmps[t]? with
  | none => rw [ht] at h; simp [undef] at h
  | some v => rw [ht] at h; simp at h; subst h; rfl

theorem yielded_undef {ops : Array Oper} {a : Act} {j t : Nat} (hj : (ops[j]?).bind (·.dst) = some t) (h : a.tmps.getD t undef = undef) : yielded ops a.tmps j = none := by
  unfold yielded
  rw [hj]
  simp only [Option.bind_some]
  rw [Array.getD_eq_getD_getElem?] at h
  cases ht : a.tmps[t]? with
  | none => rfl
  | some v => rw [ht] at h; simp at h; subst h; rfl

/-- One operation of a region, guard and all. -/
theorem gop_step {Γ : Gam D} (hΓ : GamOK P D Γ) {ops : Array Oper} {nid : Nat} {o : Oper} {d : Dec D.τ} {S : St D.τ} {r : Res D.τ} {l : List Ref} (h : (gop P D Γ ops nid o).run S = some (r, l)) (hps : ∀ p ∈ (settle d r).ps, p)
    (hd : dstOk S.nt o = true) {M : Mem} {w0 : World} {a : Act} {w : World} (hR : R D M w0 S a w) {K : Act → World → Prop} {Q : Exit → Act → World → Prop}
    (hK : ∀ a' w', R D M w0 (S.app ((settle d r).upds o)) a' w' → K a' w') :
    if Region.wanted o (yielded ops a.tmps) then o.wp P a w K Q ∨ (o.asks P a w ∧ LetsOut Q) else K (a.put o.dst undef) w := by
  have run2 : ∀ l', (aop P D Γ nid o).run S = some (r, l') → o.wp P a w K Q := by
    intro l' h'
    have hs := aop_sound (P := P) hΓ nid o S r l' h' (settle_ps d r hps) M w0 a w hR
    exact wp_of_upTo hs fun v w' hl => hK _ _ (lands_put (settle_lands d hl hps) hd)
  have skip : r = skipped → K (a.put o.dst undef) w := by
    rintro rfl
    obtain ⟨σ, ν, hR1, hA1⟩ := hR
    have hl : Lands M w0 S a (skipped : Res D.τ) undef w := ⟨σ, ν, hR1, hA1, undef_rel⟩
    exact hK _ _ (lands_put (settle_lands d hl hps) hd)
  unfold gop at h
  split at h
  · rename_i hg
    rw [if_pos (by unfold Region.wanted; rw [hg])]
    exact .inl (run2 l h)
  · rename_i j want hg
    split at h
    · rename_i hj
      simp only [run_ret] at h
      have hn : Region.wanted o (yielded ops a.tmps) = false := by
        unfold Region.wanted yielded
        rw [hg]
        simp [hj]
      rw [if_neg (by rw [hn]; simp)]
      exact skip h.1.symm
    · rename_i t hj
      obtain ⟨l1, h⟩ := slot_run h
      obtain ⟨σ, ν, hR1, hA1⟩ := id hR
      split at h
      · rename_i v hsl
        have hb := bool_rel (hA1.slots t _ hsl)
        have hy := yielded_slot hj hb
        have hw : Region.wanted o (yielded ops a.tmps) = (v == want) := by
          unfold Region.wanted
          rw [hg]
          simp only [hy]
          cases v <;> cases want <;> rfl
        cases hvw : (v == want) <;> rw [hvw] at hw <;> simp only [hvw, cond_true, cond_false] at h
        · rw [if_neg (by rw [hw]; simp)]
          simp only [run_ret] at h
          exact skip h.1.symm
        · rw [if_pos hw]
          exact .inl (run2 l1 h)
      · rename_i hsl
        have hb : a.tmps.getD t undef = undef := by
          obtain ⟨vs, e, hv⟩ := hA1.slots t _ hsl
          cases hv
          exact e
        have hy := yielded_undef hj hb
        have hw : Region.wanted o (yielded ops a.tmps) = false := by
          unfold Region.wanted
          rw [hg]
          simp [hy]
        rw [if_neg (by rw [hw]; simp)]
        simp only [run_ret] at h
        exact skip h.1.symm
      · simp at h

/-! A region in order. -/

theorem rows_cons {Γ : Gam D} {ops : Array Oper} {nid : Nat} {o : Oper} {os : List Oper} {S : St D.τ} {ds ds' : List (Dec D.τ)} {rs : List (Row D.τ)} (h : rows P D Γ ops nid (o :: os) S ds = some (rs, ds')) :
    ∃ r l d row rs' ds1, dstOk S.nt o = true ∧ (gop P D Γ ops nid o).run S = some (r, l) ∧ rs = row :: rs' ∧ row.reads = l ∧ row.us = (settle d r).upds o ∧ row.ps = (settle d r).ps ∧
      rows P D Γ ops (nid + 16) os (S.app row.us) ds1 = some (rs', ds') := by
  simp only [rows] at h
  cases hd : dstOk S.nt o <;> simp only [hd, cond_true, cond_false] at h
  · cases h
  · split at h
    · rename_i r l hr
      split at h
      · cases h
      · rename_i d ds1 _
        split at h
        · rename_i rs' ds2 hrs
          simp only [Option.some.injEq, Prod.mk.injEq] at h
          obtain ⟨rfl, rfl⟩ := h
          exact ⟨r, l, d, _, rs', ds1, rfl, hr, rfl, rfl, rfl, rfl, hrs⟩
        · cases h
      · split at h
        · rename_i rs' ds2 hrs
          simp only [Option.some.injEq, Prod.mk.injEq] at h
          obtain ⟨rfl, rfl⟩ := h
          have e : settle .keep r = r := by unfold settle; rfl
          exact ⟨r, l, .keep, _, rs', _, rfl, hr, rfl, rfl, by rw [e], by rw [e], hrs⟩
        · cases h
    · cases h

def AllPs {τ : Type} (rs : List (Row τ)) : Prop := ∀ r ∈ rs, ∀ p ∈ r.ps, p

theorem wpOps_seq {Γ : Gam D} (hΓ : GamOK P D Γ) {ops : Array Oper} {M : Mem} {w0 : World} {Q : Exit → Act → World → Prop} : ∀ (os : List Oper) (k nid : Nat) (S : St D.τ) (ds ds' : List (Dec D.τ)) (rs : List (Row D.τ)) (a : Act) (w : World),
    (∀ j, os[j]? = ops[k + j]?) → rows P D Γ ops nid os S ds = some (rs, ds') → AllPs rs → R D M w0 S a w → (∀ a' w', R D M w0 (S.appRows rs) a' w' → Q .normal a' w') →
    wpOps P ops Q (List.range' k os.length) a w
  | [], k, nid, S, ds, ds', rs, a, w, _, h, _, hR, hQ => by
    simp only [rows, Option.some.injEq, Prod.mk.injEq] at h
    obtain ⟨rfl, rfl⟩ := h
    exact hQ a w hR
  | o :: os, k, nid, S, ds, ds', rs, a, w, ho, h, hps, hR, hQ => by
    obtain ⟨r, l, d, row, rs', ds1, hd, hr, rfl, h1, h2, h3, hrs⟩ := rows_cons h
    have h0 : ops[k]? = some o := by simpa using (ho 0).symm
    simp only [List.length_cons, List.range'_succ]
    rw [wpOps_cons]
    unfold wpOp
    rw [h0]
    refine gop_step hΓ hr (by rw [← h3]; exact hps row (by simp)) hd hR (fun a' w' hR' => ?_)
    rw [← h2] at hR'
    exact wpOps_seq hΓ os (k + 1) (nid + 16) _ ds1 ds' rs' a' w' (fun j => by have := ho (j + 1); simpa [Nat.add_assoc, Nat.add_comm 1 j] using this) hrs
      (fun r hr => hps r (List.mem_cons_of_mem _ hr)) hR' hQ

/-! A region in any order. -/

def ag {τ : Type} (S S' : St τ) : Ref → Prop
  | .slot t => S.slot t = S'.slot t
  | .box b => S.box b = S'.box b

theorem ag_refl {τ : Type} (S : St τ) (x : Ref) : ag S S x := by cases x <;> rfl
theorem ag_symm {τ : Type} {S S' : St τ} {x : Ref} (h : ag S S' x) : ag S' S x := by cases x <;> exact Eq.symm h
theorem ag_trans {τ : Type} {S S' S'' : St τ} {x : Ref} (h : ag S S' x) (k : ag S' S'' x) : ag S S'' x := by cases x <;> exact Eq.trans h k

theorem St.ext' {τ : Type} {S S' : St τ} (hn : S.nt = S'.nt) (hp : S.np = S'.np) (h : ∀ x, ag S S' x) : S = S' := by
  obtain ⟨a, b, c, d⟩ := S
  obtain ⟨a', b', c', d'⟩ := S'
  have h1 : a = a' := funext fun t => h (.slot t)
  have h2 : b = b' := funext fun t => h (.box t)
  simp only at hn hp
  subst h1 h2 hn hp
  rfl

theorem run_local {τ α : Type} {S S' : St τ} : ∀ {m : Rd τ α} {r : α} {l : List Ref}, m.run S = some (r, l) → (∀ x ∈ l, ag S S' x) → m.run S' = some (r, l) := by
  intro m
  induction m with
  | ret a => intro r l h _; exact h
  | fail => intro r l h _; exact h
  | slot t k ih =>
    intro r l h hl
    simp only [Rd.run] at h ⊢
    cases hk : (k (S.slot t)).run S with
    | none => rw [hk] at h; cases h
    | some x =>
      obtain ⟨a', l'⟩ := x
      rw [hk] at h
      simp only [Option.some.injEq, Prod.mk.injEq] at h
      obtain ⟨rfl, rfl⟩ := h
      have e : S.slot t = S'.slot t := hl (.slot t) (by simp)
      rw [← e, ih _ hk (fun x hx => hl x (List.mem_cons_of_mem _ hx))]
  | box t k ih =>
    intro r l h hl
    simp only [Rd.run] at h ⊢
    cases hk : (k (S.box t)).run S with
    | none => rw [hk] at h; cases h
    | some x =>
      obtain ⟨a', l'⟩ := x
      rw [hk] at h
      simp only [Option.some.injEq, Prod.mk.injEq] at h
      obtain ⟨rfl, rfl⟩ := h
      have e : S.box t = S'.box t := hl (.box t) (by simp)
      rw [← e, ih _ hk (fun x hx => hl x (List.mem_cons_of_mem _ hx))]

theorem Ref.beq_spec {a b : Ref} : Ref.beq a b = true ↔ a = b := by
  cases a <;> cases b <;> simp [Ref.beq]

theorem upd_ag {τ : Type} {S S' : St τ} (u : Upd τ) {x : Ref} (h : ag S S' x) : ag (S.upd u) (S'.upd u) x := by
  cases u <;> cases x <;> simp only [ag, St.upd] at h ⊢ <;> first | exact h | rw [h]

theorem upd_other {τ : Type} (S : St τ) {u : Upd τ} {x : Ref} (h : u.ref ≠ x) : ag (S.upd u) S x := by
  cases u <;> cases x <;> simp only [ag, St.upd, Upd.ref, ne_eq, Ref.slot.injEq, Ref.box.injEq] at h ⊢
  · rw [beq_ne (fun e => h e.symm)]; rfl
  · rw [beq_ne (fun e => h e.symm)]; rfl

theorem upd_same {τ : Type} (S S' : St τ) {u : Upd τ} {x : Ref} (h : u.ref = x) : ag (S.upd u) (S'.upd u) x := by
  subst h
  cases u <;> simp [ag, St.upd, Upd.ref]

theorem app_ag {τ : Type} : ∀ (us : List (Upd τ)) {S S' : St τ} {x : Ref}, ag S S' x → ag (S.app us) (S'.app us) x
  | [], _, _, _, h => h
  | u :: us, _, _, _, h => app_ag us (upd_ag u h)

theorem app_other {τ : Type} : ∀ (us : List (Upd τ)) (S : St τ) {x : Ref}, x ∉ us.map Upd.ref → ag (S.app us) S x
  | [], S, x, _ => ag_refl S x
  | u :: us, S, x, h => by
    simp only [List.map_cons, List.mem_cons, not_or] at h
    exact ag_trans (app_other us (S.upd u) h.2) (upd_other S (Ne.symm h.1))

theorem app_same {τ : Type} : ∀ (us : List (Upd τ)) (S S' : St τ) {x : Ref}, x ∈ us.map Upd.ref → ag (S.app us) (S'.app us) x
  | u :: us, S, S', x, h => by
    by_cases h2 : x ∈ us.map Upd.ref
    · exact app_same us _ _ h2
    · simp only [List.map_cons, List.mem_cons] at h
      rcases h with h | h
      · exact app_ag us (upd_same S S' h.symm)
      · exact absurd h h2

theorem app_nt {τ : Type} : ∀ (us : List (Upd τ)) (S : St τ), (S.app us).nt = S.nt
  | [], _ => rfl
  | u :: us, S => (app_nt us (S.upd u)).trans (by cases u <;> rfl)

/-- Those rows that have been carried out, in the order of the text. -/
def appE {τ : Type} (E : Nat → Bool) : Nat → List (Row τ) → St τ → St τ
  | _, [], S => S
  | i, r :: rs, S => appE E (i + 1) rs (bif E i then S.app r.us else S)

theorem app_np {τ : Type} : ∀ (us : List (Upd τ)) (S : St τ), (S.app us).np = S.np
  | [], _ => rfl
  | u :: us, S => (app_np us (S.upd u)).trans (by cases u <;> rfl)


theorem appE_nt {τ : Type} (E : Nat → Bool) : ∀ (i : Nat) (rs : List (Row τ)) (S : St τ), (appE E i rs S).nt = S.nt
  | _, [], _ => rfl
  | i, r :: rs, S => by
    show (appE E (i + 1) rs _).nt = _
    rw [appE_nt E (i + 1) rs]
    cases E i
    · rfl
    · exact app_nt _ _

theorem appE_np {τ : Type} (E : Nat → Bool) : ∀ (i : Nat) (rs : List (Row τ)) (S : St τ), (appE E i rs S).np = S.np
  | _, [], _ => rfl
  | i, r :: rs, S => by
    show (appE E (i + 1) rs _).np = _
    rw [appE_np E (i + 1) rs]
    cases E i
    · rfl
    · exact app_np _ _

theorem appE_ag {τ : Type} {E E' : Nat → Bool} {x : Ref} : ∀ (rs : List (Row τ)) (i : Nat) {S S' : St τ}, (∀ k r, rs[k]? = some r → x ∈ r.writes → E (i + k) = E' (i + k)) → ag S S' x → ag (appE E i rs S) (appE E' i rs S') x
  | [], _, _, _, _, h => h
  | r :: rs, i, S, S', he, h => by
    show ag (appE E (i + 1) rs _) (appE E' (i + 1) rs _) x
    refine appE_ag rs (i + 1) (fun k r' hk hx => by have := he (k + 1) r' (by simpa using hk) hx; rwa [show i + (k + 1) = i + 1 + k from by omega] at this) ?_
    by_cases hx : x ∈ r.writes
    · have := he 0 r rfl hx
      rw [Nat.add_zero] at this
      rw [this]
      cases E' i
      · exact h
      · exact app_ag _ h
    · have h1 : ag (bif E i then S.app r.us else S) S x := by
        cases E i
        · exact ag_refl _ _
        · exact app_other _ _ hx
      have h2 : ag (bif E' i then S'.app r.us else S') S' x := by
        cases E' i
        · exact ag_refl _ _
        · exact app_other _ _ hx
      exact ag_trans h1 (ag_trans h (ag_symm h2))

theorem appE_last {τ : Type} {E : Nat → Bool} {x : Ref} : ∀ (rs : List (Row τ)) (i m : Nat) (S S' : St τ) {r : Row τ}, rs[m]? = some r → x ∈ r.writes → E (i + m) = true →
    (∀ k r', rs[k]? = some r' → m < k → E (i + k) = true → x ∉ r'.writes) → ag (appE E i rs S) (S'.app r.us) x
  | r0 :: rs, i, 0, S, S', r, hr, hx, he, hl => by
    simp only [List.getElem?_cons_zero, Option.some.injEq] at hr
    subst hr
    rw [Nat.add_zero] at he
    show ag (appE E (i + 1) rs (bif E i then S.app r0.us else S)) _ x
    rw [he]
    have h1 : ag (appE E (i + 1) rs (S.app r0.us)) (appE (fun _ => false) (i + 1) rs (S.app r0.us)) x := by
      refine appE_ag rs (i + 1) (fun k r' hk hx' => ?_) (ag_refl _ _)
      cases hE : E (i + 1 + k) with
      | false => rfl
      | true => exact absurd hx' (hl (k + 1) r' (by simpa using hk) (by omega) (by rw [show i + (k + 1) = i + 1 + k from by omega]; exact hE))
    have h2 : ∀ (rs : List (Row τ)) (i : Nat) (T : St τ), appE (fun _ => false) i rs T = T := by
      intro rs
      induction rs with
      | nil => intro i T; rfl
      | cons r rs ih => intro i T; exact ih (i + 1) T
    rw [h2] at h1
    exact ag_trans h1 (app_same _ _ _ hx)
  | r0 :: rs, i, m + 1, S, S', r, hr, hx, he, hl => by
    show ag (appE E (i + 1) rs _) _ x
    refine appE_last rs (i + 1) m _ S' (by simpa using hr) hx (by rw [show i + 1 + m = i + (m + 1) from by omega]; exact he) (fun k r' hk hlt hE => ?_)
    exact hl (k + 1) r' (by simpa using hk) (by omega) (by rw [show i + (k + 1) = i + 1 + k from by omega]; exact hE)

theorem appE_all {τ : Type} {E : Nat → Bool} : ∀ (rs : List (Row τ)) (i : Nat) (S : St τ), (∀ k, k < rs.length → E (i + k) = true) → appE E i rs S = S.appRows rs
  | [], _, _, _ => rfl
  | r :: rs, i, S, h => by
    show appE E (i + 1) rs _ = _
    have h0 := h 0 (by simp)
    rw [Nat.add_zero] at h0
    rw [h0]
    exact appE_all rs (i + 1) _ (fun k hk => by rw [show i + 1 + k = i + (k + 1) from by omega]; exact h (k + 1) (by simp; omega))

theorem rows_get {Γ : Gam D} {ops : Array Oper} : ∀ (os : List Oper) (nid : Nat) (S : St D.τ) (ds ds' : List (Dec D.τ)) (rs : List (Row D.τ)), rows P D Γ ops nid os S ds = some (rs, ds') →
    rs.length = os.length ∧ ∀ i o, os[i]? = some o → ∃ row r l d, rs[i]? = some row ∧ dstOk S.nt o = true ∧ (gop P D Γ ops (nid + 16 * i) o).run (S.appRows (rs.take i)) = some (r, l) ∧
      row.reads = l ∧ row.us = (settle d r).upds o ∧ row.ps = (settle d r).ps
  | [], nid, S, ds, ds', rs, h => by
    simp only [rows, Option.some.injEq, Prod.mk.injEq] at h
    obtain ⟨rfl, _⟩ := h
    exact ⟨rfl, fun i o h => by simp at h⟩
  | o :: os, nid, S, ds, ds', rs, h => by
    obtain ⟨r, l, d, row, rs', ds1, hd, hr, rfl, h1, h2, h3, hrs⟩ := rows_cons h
    obtain ⟨hl, hg⟩ := rows_get os (nid + 16) _ ds1 ds' rs' hrs
    refine ⟨by simp [hl], fun i o' ho => ?_⟩
    cases i with
    | zero =>
      simp only [List.getElem?_cons_zero, Option.some.injEq] at ho
      subst ho
      exact ⟨row, r, l, d, rfl, hd, hr, h1, h2, h3⟩
    | succ i =>
      obtain ⟨row', r', l', d', q1, q2, q3, q4⟩ := hg i o' (by simpa using ho)
      rw [app_nt] at q2
      refine ⟨row', r', l', d', by simpa using q1, q2, ?_, q4⟩
      rw [show nid + 16 * (i + 1) = nid + 16 + 16 * i from by omega]
      exact q3

theorem appE_take {τ : Type} : ∀ (rs : List (Row τ)) (j i : Nat) (S : St τ), appE (fun k => decide (k < j + i)) j rs S = S.appRows (rs.take i)
  | [], _, _, _ => by simp [appE, St.appRows]
  | r :: rs, j, 0, S => by
    have h2 : ∀ (rs : List (Row τ)) (m : Nat) (T : St τ), j ≤ m → appE (fun k => decide (k < j + 0)) m rs T = T := by
      intro rs
      induction rs with
      | nil => intro m T _; rfl
      | cons r rs ih =>
        intro m T hm
        show appE _ (m + 1) rs (bif decide (m < j + 0) then T.app r.us else T) = T
        rw [show decide (m < j + 0) = false from by simpa using hm]
        exact ih (m + 1) T (by omega)
    rw [h2 _ _ _ (Nat.le_refl _)]
    rfl
  | r :: rs, j, i + 1, S => by
    show appE _ (j + 1) rs (bif decide (j < j + (i + 1)) then S.app r.us else S) = _
    rw [show decide (j < j + (i + 1)) = true from by simp]
    have := appE_take rs (j + 1) i (S.app r.us)
    rw [show j + 1 + i = j + (i + 1) from by omega] at this
    exact this

/-! What must come ahead. -/

theorem ahead_bit {ms : List Nat} {o : Oper} {i : Nat} (h : (ahead ms o).testBit i = true) : ∃ e ∈ o.after.toList, Region.binds .any e = true ∧ (e.on = i ∨ (ms.getD e.on 0).testBit i = true) := by
  unfold ahead at h
  have key : ∀ (es : List Edge) (s : Nat), (es.foldl (fun s e => bif Region.binds .any e then s ||| 2 ^ e.on ||| ms.getD e.on 0 else s) s).testBit i = true →
      s.testBit i = true ∨ ∃ e ∈ es, Region.binds .any e = true ∧ (e.on = i ∨ (ms.getD e.on 0).testBit i = true) := by
    intro es
    induction es with
    | nil => intro s h; exact .inl h
    | cons e es ih =>
      intro s h
      rw [List.foldl_cons] at h
      rcases ih _ h with h1 | ⟨e', he', hb⟩
      · cases hbd : Region.binds .any e with
        | false => rw [hbd] at h1; exact .inl h1
        | true =>
          rw [hbd] at h1
          simp only [cond_true, Nat.testBit_or, Bool.or_eq_true, Nat.testBit_two_pow, decide_eq_true_eq] at h1
          rcases h1 with (h1 | h1) | h1
          · exact .inl h1
          · exact .inr ⟨e, by simp, hbd, .inl h1⟩
          · exact .inr ⟨e, by simp, hbd, .inr h1⟩
      · exact .inr ⟨e', List.mem_cons_of_mem _ he', hb⟩
  rcases key o.after.toList 0 h with h | h
  · simp at h
  · exact h

theorem aheads_get : ∀ (os : List Oper) (ms : List Nat), (∀ j, j < ms.length → (aheads os ms)[j]? = ms[j]?) ∧ (aheads os ms).length = ms.length + os.length
  | [], ms => ⟨fun _ _ => rfl, rfl⟩
  | o :: os, ms => by
    obtain ⟨h1, h2⟩ := aheads_get os (ms ++ [ahead ms o])
    refine ⟨fun j hj => ?_, ?_⟩
    · show (aheads os (ms ++ [ahead ms o]))[j]? = _
      rw [h1 j (by simp; omega), List.getElem?_append_left hj]
    · show (aheads os (ms ++ [ahead ms o])).length = _
      rw [h2]; simp; omega

theorem aheads_at : ∀ (os : List Oper) (ms : List Nat) (j : Nat) (o : Oper), os[j]? = some o → (aheads os ms)[ms.length + j]? = some (ahead ((aheads os ms).take (ms.length + j)) o)
  | [], _, _, _, h => by simp at h
  | o :: os, ms, 0, o', h => by
    simp only [List.getElem?_cons_zero, Option.some.injEq] at h
    subst h
    show (aheads os (ms ++ [ahead ms o]))[ms.length + 0]? = some (ahead ((aheads os (ms ++ [ahead ms o])).take (ms.length + 0)) o)
    obtain ⟨h1, h2⟩ := aheads_get os (ms ++ [ahead ms o])
    have e : (aheads os (ms ++ [ahead ms o])).take ms.length = ms := by
      apply List.ext_getElem?
      intro j
      rw [List.getElem?_take]
      by_cases hj : j < ms.length
      · rw [if_pos hj, h1 j (by simp; omega), List.getElem?_append_left hj]
      · rw [if_neg hj, List.getElem?_eq_none (by omega)]
    rw [Nat.add_zero, e, h1 _ (by simp)]
    simp
  | o :: os, ms, j + 1, o', h => by
    show (aheads os (ms ++ [ahead ms o]))[ms.length + (j + 1)]? = some (ahead ((aheads os (ms ++ [ahead ms o])).take (ms.length + (j + 1))) o')
    have := aheads_at os (ms ++ [ahead ms o]) j o' (by simpa using h)
    simp only [List.length_append, List.length_cons, List.length_nil] at this
    rw [show ms.length + (0 + 1) + j = ms.length + (j + 1) from by omega] at this
    exact this

theorem backs_get : ∀ (os : List Oper) (i j : Nat) (o : Oper), backs i os = true → os[j]? = some o → ∀ e ∈ o.after.toList, Region.binds .any e = true → e.on < i + j
  | [], _, _, _, _, h, _, _, _ => by simp at h
  | o :: os, i, 0, o', hb, h, e, he, hbd => by
    simp only [List.getElem?_cons_zero, Option.some.injEq] at h
    subst h
    simp only [backs, Bool.and_eq_true, backB, List.all_eq_true] at hb
    have := hb.1 e he
    rw [hbd] at this
    exact Nat.lt_of_lt_of_eq (Nat.le_of_ble_eq_true this) (by omega)
  | o :: os, i, j + 1, o', hb, h, e, he, hbd => by
    simp only [backs, Bool.and_eq_true] at hb
    have := backs_get os (i + 1) j o' hb.2 (by simpa using h) e he hbd
    omega

/-- A set of operations with each of which all stand that are bound to come ahead of it. -/
def Closed (ops : List Oper) (E : Nat → Bool) : Prop := ∀ j o, ops[j]? = some o → E j = true → ∀ e ∈ o.after.toList, Region.binds .any e = true → E e.on = true

theorem closed_ahead {ops : List Oper} (hb : backs 0 ops = true) {E : Nat → Bool} (hE : Closed ops E) : ∀ (j : Nat) (o : Oper) (i : Nat), ops[j]? = some o → (∀ e ∈ o.after.toList, Region.binds .any e = true → E e.on = true) →
    ((aheads ops []).getD j 0).testBit i = true → E i = true := by
  intro j
  induction j using Nat.strongRecOn with
  | _ j ih =>
    intro o i ho he hbit
    have h1 := aheads_at ops [] j o ho
    simp only [List.length_nil, Nat.zero_add] at h1
    rw [List.getD_eq_getElem?_getD, h1] at hbit
    obtain ⟨e, hem, hbd, hor⟩ := ahead_bit hbit
    rcases hor with rfl | hor
    · exact he e hem hbd
    · have hlt := backs_get ops 0 j o hb ho e hem hbd
      rw [Nat.zero_add] at hlt
      have hlen : j < ops.length := (List.getElem?_eq_some_iff.1 ho).1
      have ho' : ops[e.on]? = some ops[e.on] := List.getElem?_eq_getElem (by omega)
      refine ih e.on hlt _ i ho' (fun e' he' hbd' => hE e.on _ ho' (he e hem hbd) e' he' hbd') ?_
      rw [List.getD_eq_getElem?_getD, List.getElem?_take, if_pos hlt] at hor
      rw [List.getD_eq_getElem?_getD]
      exact hor

theorem clear1_get {τ : Type} {i : Nat} {r : Row τ} {ms : List Nat} : ∀ (rs : List (Row τ)) (j k : Nat) (s : Row τ), clear1 i r j rs ms = true → rs[k]? = some s → meddle r s = true → (ms.getD (j + k) 0).testBit i = true
  | s0 :: rs, j, 0, s, h, hk, hm => by
    simp only [List.getElem?_cons_zero, Option.some.injEq] at hk
    subst hk
    simp only [clear1, Bool.and_eq_true] at h
    rw [hm] at h
    exact h.1
  | s0 :: rs, j, k + 1, s, h, hk, hm => by
    simp only [clear1, Bool.and_eq_true] at h
    have := clear1_get rs (j + 1) k s h.2 (by simpa using hk) hm
    rwa [show j + 1 + k = j + (k + 1) from by omega] at this

theorem clearB_get {τ : Type} {ms : List Nat} : ∀ (rs : List (Row τ)) (i m k : Nat) (r s : Row τ), clearB ms i rs = true → rs[m]? = some r → rs[k]? = some s → m < k → meddle r s = true → (ms.getD (i + k) 0).testBit (i + m) = true
  | r0 :: rs, i, 0, k + 1, r, s, h, hm, hk, hlt, hmd => by
    simp only [List.getElem?_cons_zero, Option.some.injEq] at hm
    subst hm
    simp only [clearB, Bool.and_eq_true] at h
    have := clear1_get rs (i + 1) k s h.1 (by simpa using hk) hmd
    rwa [show i + 1 + k = i + (k + 1) from by omega] at this
  | r0 :: rs, i, m + 1, k + 1, r, s, h, hm, hk, hlt, hmd => by
    simp only [clearB, Bool.and_eq_true] at h
    have := clearB_get rs (i + 1) m k r s h.2 (by simpa using hm) (by simpa using hk) (by omega) hmd
    rwa [show i + 1 + k = i + (k + 1) from by omega, show i + 1 + m = i + (m + 1) from by omega] at this

theorem meets_of {a b : List Ref} {x : Ref} (ha : x ∈ a) (hb : x ∈ b) : meets a b = true := by
  unfold meets
  rw [List.any_eq_true]
  refine ⟨x, ha, ?_⟩
  rw [List.any_eq_true]
  exact ⟨x, hb, Ref.beq_spec.2 rfl⟩

theorem wpAny_draw {Γ : Gam D} (hΓ : GamOK P D Γ) {ops : Array Oper} {M : Mem} {w0 : World} {Q : Exit → Act → World → Prop} {nid : Nat} {S : St D.τ} {ds ds' : List (Dec D.τ)} {rs : List (Row D.τ)}
    (hrows : rows P D Γ ops nid ops.toList S ds = some (rs, ds')) (hps : AllPs rs) (hok : drawOk ops.toList rs = true) (hQ : ∀ a' w', R D M w0 (S.appRows rs) a' w' → Q .normal a' w') :
    ∀ (fuel : Nat) (listed : Array Bool) (a : Act) (w : World), listed.size = ops.size → (List.range ops.size).countP (fun i => !listed.getD i false) = fuel →
      Closed ops.toList (fun i => listed.getD i false) → R D M w0 (appE (fun i => listed.getD i false) 0 rs S) a w → wpAny P .any ops Q fuel listed a w := by
  obtain ⟨hlen, hget⟩ := rows_get ops.toList nid S ds ds' rs hrows
  simp only [drawOk, Bool.and_eq_true] at hok
  obtain ⟨hbk, hcl⟩ := hok
  have hlen' : rs.length = ops.size := by rw [hlen]; simp
  -- where all have been carried out
  have hdone : ∀ (listed : Array Bool) (a : Act) (w : World), (∀ i, i < ops.size → listed.getD i false = true) → R D M w0 (appE (fun i => listed.getD i false) 0 rs S) a w → Q .normal a w := by
    intro listed a w hall hR
    rw [appE_all rs 0 S (fun k hk => by rw [Nat.zero_add]; exact hall k (by omega))] at hR
    exact hQ a w hR
  intro fuel
  induction fuel with
  | zero =>
    intro listed a w hsz hcnt hcd hR
    have hall : ∀ i, i < ops.size → listed.getD i false = true := by
      intro i hi
      rw [List.countP_eq_zero] at hcnt
      have := hcnt i (List.mem_range.2 hi)
      simpa using this
    refine ⟨?_, hdone listed a w hall hR⟩
    cases hr : Region.ready .any ops listed with
    | nil => rfl
    | cons j rest =>
      have hj : j ∈ Region.ready .any ops listed := by rw [hr]; simp
      unfold Region.ready at hj
      rw [List.mem_filter] at hj
      obtain ⟨hj1, hj2⟩ := hj
      have hlt := List.mem_range.1 hj1
      simp only [Bool.and_eq_true] at hj2
      have h1 := hall j hlt
      have hs : j < listed.size := by omega
      simp [Array.getD, hs] at h1 hj2
      rw [h1] at hj2
      simp at hj2
  | succ fuel ih =>
    intro listed a w hsz hcnt hcd hR
    refine ⟨fun hr => ?_, fun i hi => ?_⟩
    · -- none is ready: then all have been carried out
      refine hdone listed a w (fun i => ?_) hR
      induction i using Nat.strongRecOn with
      | _ i ihi =>
        intro hi
        cases hli : listed.getD i false with
        | true => rfl
        | false =>
          have hin : i ∈ Region.ready .any ops listed := by
            unfold Region.ready
            rw [List.mem_filter]
            refine ⟨List.mem_range.2 hi, ?_⟩
            have ho : ops[i]? = some ops[i] := Array.getElem?_eq_getElem hi
            have ho' : ops.toList[i]? = some ops[i] := by simp [hi]
            rw [ho]
            have h2 : listed.getD i true = false := by
              have hs : i < listed.size := by omega
              simp [Array.getD, hs] at hli ⊢
              exact hli
            simp only [h2, Bool.not_false, Option.map_some, Option.getD_some, Bool.true_and]
            rw [← Array.all_toList, List.all_eq_true]
            intro e he
            cases hbd : Region.binds .any e with
            | false => rfl
            | true =>
              have hlt := backs_get ops.toList 0 i _ hbk ho' e he hbd
              rw [Nat.zero_add] at hlt
              have := ihi e.on hlt (by omega)
              simp [this]
          rw [hr] at hin
          cases hin
    · obtain ⟨hun, o, ho, hall⟩ := mem_ready.1 hi
      have hilt : i < ops.size := by
        rcases Nat.lt_or_ge i ops.size with h | h
        · exact h
        · rw [Array.getElem?_eq_none h] at ho; cases ho
      have hoL : ops.toList[i]? = some o := by rw [Array.getElem?_toList]; exact ho
      have hEi : listed.getD i false = false := by
        have hs : i < listed.size := by omega
        simp [Array.getD, hs] at hun ⊢
        exact hun
      have hbef : ∀ e ∈ o.after.toList, Region.binds .any e = true → (fun i => listed.getD i false) e.on = true := fun e he hbd => hall e (by simpa using he) hbd
      obtain ⟨row, r, l, d, hrow, hd, hrun, hrd, hus, hrps⟩ := hget i o hoL
      have hanc : ∀ k, ((aheads ops.toList []).getD i 0).testBit k = true → listed.getD k false = true := fun k hk => closed_ahead hbk hcd i o k hoL hbef hk
      have hdesc : ∀ k, k < ops.size → listed.getD k false = true → ((aheads ops.toList []).getD k 0).testBit i = true → False := by
        intro k hk hkE hbit
        have hok : ops.toList[k]? = some ops[k] := by simp [hk]
        have := closed_ahead hbk hcd k _ i hok (fun e he hbd => hcd k _ hok hkE e he hbd) hbit
        rw [hEi] at this
        cases this
      -- what it looks at is as in the text's order
      have hagree : ∀ x ∈ l, ag (S.appRows (rs.take i)) (appE (fun i => listed.getD i false) 0 rs S) x := by
        intro x hx
        have e0 := appE_take rs 0 i S
        rw [← e0]
        refine appE_ag rs 0 (fun k s hk hw => ?_) (ag_refl _ _)
        rw [Nat.zero_add, Nat.zero_add]
        have hklt : k < ops.size := by have := (List.getElem?_eq_some_iff.1 hk).1; omega
        have hxr : x ∈ row.reads := by rw [hrd]; exact hx
        rcases Nat.lt_trichotomy k i with hlt | heq | hgt
        · have hm : meddle s row = true := by unfold meddle; rw [meets_of hw hxr]; rfl
          have := clearB_get rs 0 k i s row hcl hk hrow hlt hm
          rw [Nat.zero_add, Nat.zero_add] at this
          rw [hanc k this]
          simp [hlt]
        · subst heq
          rw [hEi]
          simp
        · have hm : meddle row s = true := by unfold meddle; rw [meets_of hxr hw]; simp
          have := clearB_get rs 0 i k row s hcl hrow hk hgt hm
          rw [Nat.zero_add, Nat.zero_add] at this
          cases hkE : listed.getD k false with
          | true => exact (hdesc k hklt hkE this).elim
          | false => simp; omega
      have hrun' := run_local hrun hagree
      unfold wpOp
      rw [ho]
      refine gop_step hΓ hrun' (by rw [← hrps]; exact hps row (List.mem_of_getElem? hrow)) (by rw [appE_nt]; exact hd) hR (fun a' w' hR' => ?_)
      rw [← hus] at hR'
      -- the state behind it
      have hset : ∀ k, (listed.setIfInBounds i true).getD k false = if k = i then true else listed.getD k false := by
        intro k
        by_cases hk : k = i
        · subst hk
          rw [if_pos rfl]
          have hs : k < listed.size := by omega
          simp [Array.getD, hs]
        · rw [if_neg hk]
          exact getD_set_ne false (Ne.symm hk)
      have hst : (appE (fun i => listed.getD i false) 0 rs S).app row.us = appE (fun k => (listed.setIfInBounds i true).getD k false) 0 rs S := by
        refine St.ext' (by rw [app_nt, appE_nt, appE_nt]) (by rw [app_np, appE_np, appE_np]) (fun x => ?_)
        by_cases hx : x ∈ row.writes
        · refine ag_symm (appE_last rs 0 i S _ hrow hx (by rw [Nat.zero_add, hset]; simp) (fun k s hk hgt hE hw => ?_))
          rw [Nat.zero_add, hset, if_neg (by omega)] at hE
          have hklt : k < ops.size := by have := (List.getElem?_eq_some_iff.1 hk).1; omega
          have hm : meddle row s = true := by unfold meddle; rw [meets_of hx hw]; simp
          have := clearB_get rs 0 i k row s hcl hrow hk hgt hm
          rw [Nat.zero_add, Nat.zero_add] at this
          exact hdesc k hklt hE this
        · refine ag_trans (app_other _ _ hx) (appE_ag rs 0 (fun k s hk hw => ?_) (ag_refl _ _))
          rw [Nat.zero_add, hset]
          by_cases hki : k = i
          · subst hki
            rw [hrow] at hk
            simp only [Option.some.injEq] at hk
            subst hk
            exact absurd hw hx
          · rw [if_neg hki]
      rw [hst] at hR'
      refine ih (listed.setIfInBounds i true) a' w' (by simpa using hsz) ?_ ?_ hR'
      · -- one fewer is left
        have hcount : ∀ (L : List Nat), L.Nodup → i ∈ L → L.countP (fun k => !listed.getD k false) = L.countP (fun k => !(listed.setIfInBounds i true).getD k false) + 1 := by
          intro L
          induction L with
          | nil => intro _ h; cases h
          | cons k L ihL =>
            intro hnd hmem
            rw [List.nodup_cons] at hnd
            rw [List.countP_cons, List.countP_cons, hset k]
            by_cases hki : k = i
            · subst hki
              have hsame : L.countP (fun k => !listed.getD k false) = L.countP (fun j => !(listed.setIfInBounds k true).getD j false) := by
                refine List.countP_congr fun j hj => ?_
                rw [hset j, if_neg (by rintro rfl; exact hnd.1 hj)]
              rw [hsame]
              simp [hEi]
            · have := ihL hnd.2 (by simpa [Ne.symm hki] using hmem)
              rw [this, if_neg hki]
              omega
        have := hcount (List.range ops.size) List.nodup_range (List.mem_range.2 hilt)
        omega
      · intro j o' ho' hj e he hbd
        show (listed.setIfInBounds i true).getD e.on false = true
        rw [hset]
        by_cases hei : e.on = i
        · rw [if_pos hei]
        · rw [if_neg hei]
          have hj' : (listed.setIfInBounds i true).getD j false = true := hj
          rw [hset] at hj'
          by_cases hji : j = i
          · subst hji
            rw [hoL] at ho'
            simp only [Option.some.injEq] at ho'
            subst ho'
            exact hbef e he hbd
          · rw [if_neg hji] at hj'
            exact hcd j o' ho' hj' e he hbd

end
end Go.Abs

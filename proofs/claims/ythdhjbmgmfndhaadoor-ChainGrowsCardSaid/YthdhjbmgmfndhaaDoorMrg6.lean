/- Several texts put together: AbsC AbsD AbsE AbsL AbsP Num Byte EqT. -/
import Derived.Test.YthdhjbmgmfndhaaDoorMrg5
import Derived.WalkKit
import Derived.ChangeKeysEq
namespace Go.Abs
open Go.RowKit
section
variable {P : Program} {D : Dom}
theorem app_append {τ : Type} : ∀ (us vs : List (Upd τ)) (S : St τ), S.app (us ++ vs) = (S.app us).app vs
  | [], _, _ => rfl
  | _ :: us, vs, _ => app_append us vs _
theorem put_slot {M : Mem} {w0 : World} {σ : Loc} {ν : Nat → Value} {S : St D.τ} {a : Act} {w : World} (hR : RR D M w0 σ ν S w) (hA : RA D M w0 σ ν S a) {o : Oper} {x : AV D.τ} {v : Value}
    (hv : AVRel D (S.env D M w0 σ ν) x v) (hd : dstOk S.nt o = true) : R D M w0 (S.app (match o.dst with | some d => [Upd.slot d (some x)] | none => [])) (a.put o.dst v) w := by
  unfold dstOk at hd
  cases ho : o.dst with
  | none => exact ⟨σ, ν, hR, hA⟩
  | some d =>
    rw [ho] at hd
    have hlt : d < S.nt := Nat.lt_of_lt_of_eq (Nat.le_of_ble_eq_true hd) rfl
    refine ⟨σ, ν, ⟨hR.boxes, hR.disj, hR.lo, hR.kept, hR.zk, hR.zd, hR.pins, hR.glob, hR.z0, hR.zn⟩, ?_, hA.defers, fun t av h => ?_⟩
    · show (a.tmps.setIfInBounds d v).size = S.nt
      rw [Array.size_setIfInBounds]; exact hA.size
    · show AVRel D (S.env D M w0 σ ν) av ((a.tmps.setIfInBounds d v).getD t undef)
      have h' : (bif Nat.beq t d then some x else S.slot t) = some av := h
      by_cases ht : t = d
      · subst ht
        have hb : Nat.beq t t = true := by simp
        rw [hb] at h'
        simp only [cond_true, Option.some.injEq] at h'
        subst h'
        have : (a.tmps.setIfInBounds t v).getD t undef = v := by
          have hs : t < a.tmps.size := by rw [hA.size]; exact hlt
          simp [Array.getD, hs]
        rw [this]; exact hv
      · rw [beq_ne ht] at h'
        simp only [cond_false] at h'
        have : (a.tmps.setIfInBounds d v).getD t undef = a.tmps.getD t undef := by
          simp only [Array.getD_eq_getD_getElem?]
          rw [Array.getElem?_setIfInBounds_ne (Ne.symm ht)]
        rw [this]; exact hA.slots t av h'
theorem settle_lands {M : Mem} {w0 : World} {S : St D.τ} {a : Act} {r : Res D.τ} {v : Value} {w : World} (d : Dec D.τ) (h : Lands M w0 S a r v w) (hp : ∀ p ∈ (settle d r).ps, p) : Lands M w0 S a (settle d r) v w := by
  unfold settle at *
  split at hp
  · rename_i v' b us ps
    have hb : b = v' := hp _ (by simp)
    subst hb
    exact h
  · exact h
theorem settle_ps {τ : Type} (d : Dec τ) (r : Res τ) (h : ∀ p ∈ (settle d r).ps, p) : ∀ p ∈ r.ps, p := by
  unfold settle at h
  split at h
  · intro p hp; exact h p (List.mem_cons_of_mem _ hp)
  · exact h
theorem lands_put {M : Mem} {w0 : World} {S : St D.τ} {a : Act} {r : Res D.τ} {v : Value} {w : World} {o : Oper} (h : Lands M w0 S a r v w) (hd : dstOk S.nt o = true) : R D M w0 (S.app (r.upds o)) (a.put o.dst v) w := by
  obtain ⟨σ, ν, hR, hA, hv⟩ := h
  unfold Res.upds
  rw [app_append]
  have hnt : (S.bx r.us).nt = S.nt := (bx_slot r.us S).2
  exact put_slot hR hA hv (by rw [hnt]; exact hd)
theorem yielded_slot {ops : Array Oper} {a : Act} {j t : Nat} (hj : (ops[j]?).bind (·.dst) = some t) {b : Bool} (h : a.tmps.getD t undef = .bool b) : yielded ops a.tmps j = some b := by
  unfold yielded
  rw [hj]
  simp only [Option.bind_some]
  rw [Array.getD_eq_getD_getElem?] at h
  cases ht : a.tmps[t]? with
  | none => rw [ht] at h; simp [undef] at h
  | some v => rw [ht] at h; simp at h; subst h; rfl
theorem yielded_undef {ops : Array Oper} {a : Act} {j t : Nat} (hj : (ops[j]?).bind (·.dst) = some t) (h : a.tmps.getD t undef = undef) : yielded ops a.tmps j = none := by
  unfold yielded
  rw [hj]
  simp only [Option.bind_some]
  rw [Array.getD_eq_getD_getElem?] at h
  cases ht : a.tmps[t]? with
  | none => rfl
  | some v => rw [ht] at h; simp at h; subst h; rfl
theorem gop_step {Γ : Gam D} (hΓ : GamOK P D Γ) {ops : Array Oper} {nid : Nat} {o : Oper} {d : Dec D.τ} {S : St D.τ} {r : Res D.τ} {l : List Ref} (h : (gop P D Γ ops nid o).run S = some (r, l)) (hps : ∀ p ∈ (settle d r).ps, p)
    (hd : dstOk S.nt o = true) {M : Mem} {w0 : World} {a : Act} {w : World} (hR : R D M w0 S a w) {K : Act → World → Prop} {Q : Exit → Act → World → Prop}
    (hK : ∀ a' w', R D M w0 (S.app ((settle d r).upds o)) a' w' → K a' w') :
    if Region.wanted o (yielded ops a.tmps) then o.wp P a w K Q ∨ (o.asks P a w ∧ LetsOut Q) else K (a.put o.dst undef) w := by
  have run2 : ∀ l', (aop P D Γ nid o).run S = some (r, l') → o.wp P a w K Q := by
    intro l' h'
    have hs := aop_sound (P := P) hΓ nid o S r l' h' (settle_ps d r hps) M w0 a w hR
    exact wp_of_upTo hs fun v w' hl => hK _ _ (lands_put (settle_lands d hl hps) hd)
  have skip : r = skipped → K (a.put o.dst undef) w := by
    rintro rfl
    obtain ⟨σ, ν, hR1, hA1⟩ := hR
    have hl : Lands M w0 S a (skipped : Res D.τ) undef w := ⟨σ, ν, hR1, hA1, undef_rel⟩
    exact hK _ _ (lands_put (settle_lands d hl hps) hd)
  unfold gop at h
  split at h
  · rename_i hg
    rw [if_pos (by unfold Region.wanted; rw [hg])]
    exact .inl (run2 l h)
  · rename_i j want hg
    split at h
    · rename_i hj
      simp only [run_ret] at h
      have hn : Region.wanted o (yielded ops a.tmps) = false := by
        unfold Region.wanted yielded
        rw [hg]
        simp [hj]
      rw [if_neg (by rw [hn]; simp)]
      exact skip h.1.symm
    · rename_i t hj
      obtain ⟨l1, h⟩ := slot_run h
      obtain ⟨σ, ν, hR1, hA1⟩ := id hR
      split at h
      · rename_i v hsl
        have hb := bool_rel (hA1.slots t _ hsl)
        have hy := yielded_slot hj hb
        have hw : Region.wanted o (yielded ops a.tmps) = (v == want) := by
          unfold Region.wanted
          rw [hg]
          simp only [hy]
          cases v <;> cases want <;> rfl
        cases hvw : (v == want) <;> rw [hvw] at hw <;> simp only [hvw, cond_true, cond_false] at h
        · rw [if_neg (by rw [hw]; simp)]
          simp only [run_ret] at h
          exact skip h.1.symm
        · rw [if_pos hw]
          exact .inl (run2 l1 h)
      · rename_i hsl
        have hb : a.tmps.getD t undef = undef := by
          obtain ⟨vs, e, hv⟩ := hA1.slots t _ hsl
          cases hv
          exact e
        have hy := yielded_undef hj hb
        have hw : Region.wanted o (yielded ops a.tmps) = false := by
          unfold Region.wanted
          rw [hg]
          simp [hy]
        rw [if_neg (by rw [hw]; simp)]
        simp only [run_ret] at h
        exact skip h.1.symm
      · simp at h
theorem rows_cons {Γ : Gam D} {ops : Array Oper} {nid : Nat} {o : Oper} {os : List Oper} {S : St D.τ} {ds ds' : List (Dec D.τ)} {rs : List (Row D.τ)} (h : rows P D Γ ops nid (o :: os) S ds = some (rs, ds')) :
    ∃ r l d row rs' ds1, dstOk S.nt o = true ∧ (gop P D Γ ops nid o).run S = some (r, l) ∧ rs = row :: rs' ∧ row.reads = l ∧ row.us = (settle d r).upds o ∧ row.ps = (settle d r).ps ∧
      rows P D Γ ops (nid + 16) os (S.app row.us) ds1 = some (rs', ds') := by
  simp only [rows] at h
  cases hd : dstOk S.nt o <;> simp only [hd, cond_true, cond_false] at h
  · cases h
  · split at h
    · rename_i r l hr
      split at h
      · cases h
      · rename_i d ds1 _
        split at h
        · rename_i rs' ds2 hrs
          simp only [Option.some.injEq, Prod.mk.injEq] at h
          obtain ⟨rfl, rfl⟩ := h
          exact ⟨r, l, d, _, rs', ds1, rfl, hr, rfl, rfl, rfl, rfl, hrs⟩
        · cases h
      · split at h
        · rename_i rs' ds2 hrs
          simp only [Option.some.injEq, Prod.mk.injEq] at h
          obtain ⟨rfl, rfl⟩ := h
          have e : settle .keep r = r := by unfold settle; rfl
          exact ⟨r, l, .keep, _, rs', _, rfl, hr, rfl, rfl, by rw [e], by rw [e], hrs⟩
        · cases h
    · cases h
def AllPs {τ : Type} (rs : List (Row τ)) : Prop := ∀ r ∈ rs, ∀ p ∈ r.ps, p
theorem wpOps_seq {Γ : Gam D} (hΓ : GamOK P D Γ) {ops : Array Oper} {M : Mem} {w0 : World} {Q : Exit → Act → World → Prop} : ∀ (os : List Oper) (k nid : Nat) (S : St D.τ) (ds ds' : List (Dec D.τ)) (rs : List (Row D.τ)) (a : Act) (w : World),
    (∀ j, os[j]? = ops[k + j]?) → rows P D Γ ops nid os S ds = some (rs, ds') → AllPs rs → R D M w0 S a w → (∀ a' w', R D M w0 (S.appRows rs) a' w' → Q .normal a' w') →
    wpOps P ops Q (List.range' k os.length) a w
  | [], k, nid, S, ds, ds', rs, a, w, _, h, _, hR, hQ => by
    simp only [rows, Option.some.injEq, Prod.mk.injEq] at h
    obtain ⟨rfl, rfl⟩ := h
    exact hQ a w hR
  | o :: os, k, nid, S, ds, ds', rs, a, w, ho, h, hps, hR, hQ => by
    obtain ⟨r, l, d, row, rs', ds1, hd, hr, rfl, h1, h2, h3, hrs⟩ := rows_cons h
    have h0 : ops[k]? = some o := by simpa using (ho 0).symm
    simp only [List.length_cons, List.range'_succ]
    rw [wpOps_cons]
    unfold wpOp
    rw [h0]
    refine gop_step hΓ hr (by rw [← h3]; exact hps row (by simp)) hd hR (fun a' w' hR' => ?_)
    rw [← h2] at hR'
    exact wpOps_seq hΓ os (k + 1) (nid + 16) _ ds1 ds' rs' a' w' (fun j => by have := ho (j + 1); simpa [Nat.add_assoc, Nat.add_comm 1 j] using this) hrs
      (fun r hr => hps r (List.mem_cons_of_mem _ hr)) hR' hQ
def ag {τ : Type} (S S' : St τ) : Ref → Prop
  | .slot t => S.slot t = S'.slot t
  | .box b => S.box b = S'.box b
theorem ag_refl {τ : Type} (S : St τ) (x : Ref) : ag S S x := by cases x <;> rfl
theorem ag_symm {τ : Type} {S S' : St τ} {x : Ref} (h : ag S S' x) : ag S' S x := by cases x <;> exact Eq.symm h
theorem ag_trans {τ : Type} {S S' S'' : St τ} {x : Ref} (h : ag S S' x) (k : ag S' S'' x) : ag S S'' x := by cases x <;> exact Eq.trans h k
theorem St.ext' {τ : Type} {S S' : St τ} (hn : S.nt = S'.nt) (hp : S.np = S'.np) (h : ∀ x, ag S S' x) : S = S' := by
  obtain ⟨a, b, c, d⟩ := S
  obtain ⟨a', b', c', d'⟩ := S'
  have h1 : a = a' := funext fun t => h (.slot t)
  have h2 : b = b' := funext fun t => h (.box t)
  simp only at hn hp
  subst h1 h2 hn hp
  rfl
theorem run_local {τ α : Type} {S S' : St τ} : ∀ {m : Rd τ α} {r : α} {l : List Ref}, m.run S = some (r, l) → (∀ x ∈ l, ag S S' x) → m.run S' = some (r, l) := by
  intro m
  induction m with
  | ret a => intro r l h _; exact h
  | fail => intro r l h _; exact h
  | slot t k ih =>
    intro r l h hl
    simp only [Rd.run] at h ⊢
    cases hk : (k (S.slot t)).run S with
    | none => rw [hk] at h; cases h
    | some x =>
      obtain ⟨a', l'⟩ := x
      rw [hk] at h
      simp only [Option.some.injEq, Prod.mk.injEq] at h
      obtain ⟨rfl, rfl⟩ := h
      have e : S.slot t = S'.slot t := hl (.slot t) (by simp)
      rw [← e, ih _ hk (fun x hx => hl x (List.mem_cons_of_mem _ hx))]
  | box t k ih =>
    intro r l h hl
    simp only [Rd.run] at h ⊢
    cases hk : (k (S.box t)).run S with
    | none => rw [hk] at h; cases h
    | some x =>
      obtain ⟨a', l'⟩ := x
      rw [hk] at h
      simp only [Option.some.injEq, Prod.mk.injEq] at h
      obtain ⟨rfl, rfl⟩ := h
      have e : S.box t = S'.box t := hl (.box t) (by simp)
      rw [← e, ih _ hk (fun x hx => hl x (List.mem_cons_of_mem _ hx))]
theorem Ref.beq_spec {a b : Ref} : Ref.beq a b = true ↔ a = b := by
  cases a <;> cases b <;> simp [Ref.beq]
theorem upd_ag {τ : Type} {S S' : St τ} (u : Upd τ) {x : Ref} (h : ag S S' x) : ag (S.upd u) (S'.upd u) x := by
  cases u <;> cases x <;> simp only [ag, St.upd] at h ⊢ <;> first | exact h | rw [h]
theorem upd_other {τ : Type} (S : St τ) {u : Upd τ} {x : Ref} (h : u.ref ≠ x) : ag (S.upd u) S x := by
  cases u <;> cases x <;> simp only [ag, St.upd, Upd.ref, ne_eq, Ref.slot.injEq, Ref.box.injEq] at h ⊢
  · rw [beq_ne (fun e => h e.symm)]; rfl
  · rw [beq_ne (fun e => h e.symm)]; rfl
theorem upd_same {τ : Type} (S S' : St τ) {u : Upd τ} {x : Ref} (h : u.ref = x) : ag (S.upd u) (S'.upd u) x := by
  subst h
  cases u <;> simp [ag, St.upd, Upd.ref]
theorem app_ag {τ : Type} : ∀ (us : List (Upd τ)) {S S' : St τ} {x : Ref}, ag S S' x → ag (S.app us) (S'.app us) x
  | [], _, _, _, h => h
  | u :: us, _, _, _, h => app_ag us (upd_ag u h)
theorem app_other {τ : Type} : ∀ (us : List (Upd τ)) (S : St τ) {x : Ref}, x ∉ us.map Upd.ref → ag (S.app us) S x
  | [], S, x, _ => ag_refl S x
  | u :: us, S, x, h => by
    simp only [List.map_cons, List.mem_cons, not_or] at h
    exact ag_trans (app_other us (S.upd u) h.2) (upd_other S (Ne.symm h.1))
theorem app_same {τ : Type} : ∀ (us : List (Upd τ)) (S S' : St τ) {x : Ref}, x ∈ us.map Upd.ref → ag (S.app us) (S'.app us) x
  | u :: us, S, S', x, h => by
    by_cases h2 : x ∈ us.map Upd.ref
    · exact app_same us _ _ h2
    · simp only [List.map_cons, List.mem_cons] at h
      rcases h with h | h
      · exact app_ag us (upd_same S S' h.symm)
      · exact absurd h h2
theorem app_nt {τ : Type} : ∀ (us : List (Upd τ)) (S : St τ), (S.app us).nt = S.nt
  | [], _ => rfl
  | u :: us, S => (app_nt us (S.upd u)).trans (by cases u <;> rfl)
def appE {τ : Type} (E : Nat → Bool) : Nat → List (Row τ) → St τ → St τ
  | _, [], S => S
  | i, r :: rs, S => appE E (i + 1) rs (bif E i then S.app r.us else S)
theorem app_np {τ : Type} : ∀ (us : List (Upd τ)) (S : St τ), (S.app us).np = S.np
  | [], _ => rfl
  | u :: us, S => (app_np us (S.upd u)).trans (by cases u <;> rfl)
theorem appE_nt {τ : Type} (E : Nat → Bool) : ∀ (i : Nat) (rs : List (Row τ)) (S : St τ), (appE E i rs S).nt = S.nt
  | _, [], _ => rfl
  | i, r :: rs, S => by
    show (appE E (i + 1) rs _).nt = _
    rw [appE_nt E (i + 1) rs]
    cases E i
    · rfl
    · exact app_nt _ _
theorem appE_np {τ : Type} (E : Nat → Bool) : ∀ (i : Nat) (rs : List (Row τ)) (S : St τ), (appE E i rs S).np = S.np
  | _, [], _ => rfl
  | i, r :: rs, S => by
    show (appE E (i + 1) rs _).np = _
    rw [appE_np E (i + 1) rs]
    cases E i
    · rfl
    · exact app_np _ _
theorem appE_ag {τ : Type} {E E' : Nat → Bool} {x : Ref} : ∀ (rs : List (Row τ)) (i : Nat) {S S' : St τ}, (∀ k r, rs[k]? = some r → x ∈ r.writes → E (i + k) = E' (i + k)) → ag S S' x → ag (appE E i rs S) (appE E' i rs S') x
  | [], _, _, _, _, h => h
  | r :: rs, i, S, S', he, h => by
    show ag (appE E (i + 1) rs _) (appE E' (i + 1) rs _) x
    refine appE_ag rs (i + 1) (fun k r' hk hx => by have := he (k + 1) r' (by simpa using hk) hx; rwa [show i + (k + 1) = i + 1 + k from by omega] at this) ?_
    by_cases hx : x ∈ r.writes
    · have := he 0 r rfl hx
      rw [Nat.add_zero] at this
      rw [this]
      cases E' i
      · exact h
      · exact app_ag _ h
    · have h1 : ag (bif E i then S.app r.us else S) S x := by
        cases E i
        · exact ag_refl _ _
        · exact app_other _ _ hx
      have h2 : ag (bif E' i then S'.app r.us else S') S' x := by
        cases E' i
        · exact ag_refl _ _
        · exact app_other _ _ hx
      exact ag_trans h1 (ag_trans h (ag_symm h2))
theorem appE_last {τ : Type} {E : Nat → Bool} {x : Ref} : ∀ (rs : List (Row τ)) (i m : Nat) (S S' : St τ) {r : Row τ}, rs[m]? = some r → x ∈ r.writes → E (i + m) = true →
    (∀ k r', rs[k]? = some r' → m < k → E (i + k) = true → x ∉ r'.writes) → ag (appE E i rs S) (S'.app r.us) x
  | r0 :: rs, i, 0, S, S', r, hr, hx, he, hl => by
    simp only [List.getElem?_cons_zero, Option.some.injEq] at hr
    subst hr
    rw [Nat.add_zero] at he
    show ag (appE E (i + 1) rs (bif E i then S.app r0.us else S)) _ x
    rw [he]
    have h1 : ag (appE E (i + 1) rs (S.app r0.us)) (appE (fun _ => false) (i + 1) rs (S.app r0.us)) x := by
      refine appE_ag rs (i + 1) (fun k r' hk hx' => ?_) (ag_refl _ _)
      cases hE : E (i + 1 + k) with
      | false => rfl
      | true => exact absurd hx' (hl (k + 1) r' (by simpa using hk) (by omega) (by rw [show i + (k + 1) = i + 1 + k from by omega]; exact hE))
    have h2 : ∀ (rs : List (Row τ)) (i : Nat) (T : St τ), appE (fun _ => false) i rs T = T := by
      intro rs
      induction rs with
      | nil => intro i T; rfl
      | cons r rs ih => intro i T; exact ih (i + 1) T
    rw [h2] at h1
    exact ag_trans h1 (app_same _ _ _ hx)
  | r0 :: rs, i, m + 1, S, S', r, hr, hx, he, hl => by
    show ag (appE E (i + 1) rs _) _ x
    refine appE_last rs (i + 1) m _ S' (by simpa using hr) hx (by rw [show i + 1 + m = i + (m + 1) from by omega]; exact he) (fun k r' hk hlt hE => ?_)
    exact hl (k + 1) r' (by simpa using hk) (by omega) (by rw [show i + (k + 1) = i + 1 + k from by omega]; exact hE)
theorem appE_all {τ : Type} {E : Nat → Bool} : ∀ (rs : List (Row τ)) (i : Nat) (S : St τ), (∀ k, k < rs.length → E (i + k) = true) → appE E i rs S = S.appRows rs
  | [], _, _, _ => rfl
  | r :: rs, i, S, h => by
    show appE E (i + 1) rs _ = _
    have h0 := h 0 (by simp)
    rw [Nat.add_zero] at h0
    rw [h0]
    exact appE_all rs (i + 1) _ (fun k hk => by rw [show i + 1 + k = i + (k + 1) from by omega]; exact h (k + 1) (by simp; omega))
theorem rows_get {Γ : Gam D} {ops : Array Oper} : ∀ (os : List Oper) (nid : Nat) (S : St D.τ) (ds ds' : List (Dec D.τ)) (rs : List (Row D.τ)), rows P D Γ ops nid os S ds = some (rs, ds') →
    rs.length = os.length ∧ ∀ i o, os[i]? = some o → ∃ row r l d, rs[i]? = some row ∧ dstOk S.nt o = true ∧ (gop P D Γ ops (nid + 16 * i) o).run (S.appRows (rs.take i)) = some (r, l) ∧
      row.reads = l ∧ row.us = (settle d r).upds o ∧ row.ps = (settle d r).ps
  | [], nid, S, ds, ds', rs, h => by
    simp only [rows, Option.some.injEq, Prod.mk.injEq] at h
    obtain ⟨rfl, _⟩ := h
    exact ⟨rfl, fun i o h => by simp at h⟩
  | o :: os, nid, S, ds, ds', rs, h => by
    obtain ⟨r, l, d, row, rs', ds1, hd, hr, rfl, h1, h2, h3, hrs⟩ := rows_cons h
    obtain ⟨hl, hg⟩ := rows_get os (nid + 16) _ ds1 ds' rs' hrs
    refine ⟨by simp [hl], fun i o' ho => ?_⟩
    cases i with
    | zero =>
      simp only [List.getElem?_cons_zero, Option.some.injEq] at ho
      subst ho
      exact ⟨row, r, l, d, rfl, hd, hr, h1, h2, h3⟩
    | succ i =>
      obtain ⟨row', r', l', d', q1, q2, q3, q4⟩ := hg i o' (by simpa using ho)
      rw [app_nt] at q2
      refine ⟨row', r', l', d', by simpa using q1, q2, ?_, q4⟩
      rw [show nid + 16 * (i + 1) = nid + 16 + 16 * i from by omega]
      exact q3
theorem appE_take {τ : Type} : ∀ (rs : List (Row τ)) (j i : Nat) (S : St τ), appE (fun k => decide (k < j + i)) j rs S = S.appRows (rs.take i)
  | [], _, _, _ => by simp [appE, St.appRows]
  | r :: rs, j, 0, S => by
    have h2 : ∀ (rs : List (Row τ)) (m : Nat) (T : St τ), j ≤ m → appE (fun k => decide (k < j + 0)) m rs T = T := by
      intro rs
      induction rs with
      | nil => intro m T _; rfl
      | cons r rs ih =>
        intro m T hm
        show appE _ (m + 1) rs (bif decide (m < j + 0) then T.app r.us else T) = T
        rw [show decide (m < j + 0) = false from by simpa using hm]
        exact ih (m + 1) T (by omega)
    rw [h2 _ _ _ (Nat.le_refl _)]
    rfl
  | r :: rs, j, i + 1, S => by
    show appE _ (j + 1) rs (bif decide (j < j + (i + 1)) then S.app r.us else S) = _
    rw [show decide (j < j + (i + 1)) = true from by simp]
    have := appE_take rs (j + 1) i (S.app r.us)
    rw [show j + 1 + i = j + (i + 1) from by omega] at this
    exact this
theorem ahead_bit {ms : List Nat} {o : Oper} {i : Nat} (h : (ahead ms o).testBit i = true) : ∃ e ∈ o.after.toList, Region.binds .any e = true ∧ (e.on = i ∨ (ms.getD e.on 0).testBit i = true) := by
  unfold ahead at h
  have key : ∀ (es : List Edge) (s : Nat), (es.foldl (fun s e => bif Region.binds .any e then s ||| 2 ^ e.on ||| ms.getD e.on 0 else s) s).testBit i = true →
      s.testBit i = true ∨ ∃ e ∈ es, Region.binds .any e = true ∧ (e.on = i ∨ (ms.getD e.on 0).testBit i = true) := by
    intro es
    induction es with
    | nil => intro s h; exact .inl h
    | cons e es ih =>
      intro s h
      rw [List.foldl_cons] at h
      rcases ih _ h with h1 | ⟨e', he', hb⟩
      · cases hbd : Region.binds .any e with
        | false => rw [hbd] at h1; exact .inl h1
        | true =>
          rw [hbd] at h1
          simp only [cond_true, Nat.testBit_or, Bool.or_eq_true, Nat.testBit_two_pow, decide_eq_true_eq] at h1
          rcases h1 with (h1 | h1) | h1
          · exact .inl h1
          · exact .inr ⟨e, by simp, hbd, .inl h1⟩
          · exact .inr ⟨e, by simp, hbd, .inr h1⟩
      · exact .inr ⟨e', List.mem_cons_of_mem _ he', hb⟩
  rcases key o.after.toList 0 h with h | h
  · simp at h
  · exact h
theorem aheads_get : ∀ (os : List Oper) (ms : List Nat), (∀ j, j < ms.length → (aheads os ms)[j]? = ms[j]?) ∧ (aheads os ms).length = ms.length + os.length
  | [], ms => ⟨fun _ _ => rfl, rfl⟩
  | o :: os, ms => by
    obtain ⟨h1, h2⟩ := aheads_get os (ms ++ [ahead ms o])
    refine ⟨fun j hj => ?_, ?_⟩
    · show (aheads os (ms ++ [ahead ms o]))[j]? = _
      rw [h1 j (by simp; omega), List.getElem?_append_left hj]
    · show (aheads os (ms ++ [ahead ms o])).length = _
      rw [h2]; simp; omega
theorem aheads_at : ∀ (os : List Oper) (ms : List Nat) (j : Nat) (o : Oper), os[j]? = some o → (aheads os ms)[ms.length + j]? = some (ahead ((aheads os ms).take (ms.length + j)) o)
  | [], _, _, _, h => by simp at h
  | o :: os, ms, 0, o', h => by
    simp only [List.getElem?_cons_zero, Option.some.injEq] at h
    subst h
    show (aheads os (ms ++ [ahead ms o]))[ms.length + 0]? = some (ahead ((aheads os (ms ++ [ahead ms o])).take (ms.length + 0)) o)
    obtain ⟨h1, h2⟩ := aheads_get os (ms ++ [ahead ms o])
    have e : (aheads os (ms ++ [ahead ms o])).take ms.length = ms := by
      apply List.ext_getElem?
      intro j
      rw [List.getElem?_take]
      by_cases hj : j < ms.length
      · rw [if_pos hj, h1 j (by simp; omega), List.getElem?_append_left hj]
      · rw [if_neg hj, List.getElem?_eq_none (by omega)]
    rw [Nat.add_zero, e, h1 _ (by simp)]
    simp
  | o :: os, ms, j + 1, o', h => by
    show (aheads os (ms ++ [ahead ms o]))[ms.length + (j + 1)]? = some (ahead ((aheads os (ms ++ [ahead ms o])).take (ms.length + (j + 1))) o')
    have := aheads_at os (ms ++ [ahead ms o]) j o' (by simpa using h)
    simp only [List.length_append, List.length_cons, List.length_nil] at this
    rw [show ms.length + (0 + 1) + j = ms.length + (j + 1) from by omega] at this
    exact this
theorem backs_get : ∀ (os : List Oper) (i j : Nat) (o : Oper), backs i os = true → os[j]? = some o → ∀ e ∈ o.after.toList, Region.binds .any e = true → e.on < i + j
  | [], _, _, _, _, h, _, _, _ => by simp at h
  | o :: os, i, 0, o', hb, h, e, he, hbd => by
    simp only [List.getElem?_cons_zero, Option.some.injEq] at h
    subst h
    simp only [backs, Bool.and_eq_true, backB, List.all_eq_true] at hb
    have := hb.1 e he
    rw [hbd] at this
    exact Nat.lt_of_lt_of_eq (Nat.le_of_ble_eq_true this) (by omega)
  | o :: os, i, j + 1, o', hb, h, e, he, hbd => by
    simp only [backs, Bool.and_eq_true] at hb
    have := backs_get os (i + 1) j o' hb.2 (by simpa using h) e he hbd
    omega
def Closed (ops : List Oper) (E : Nat → Bool) : Prop := ∀ j o, ops[j]? = some o → E j = true → ∀ e ∈ o.after.toList, Region.binds .any e = true → E e.on = true
theorem closed_ahead {ops : List Oper} (hb : backs 0 ops = true) {E : Nat → Bool} (hE : Closed ops E) : ∀ (j : Nat) (o : Oper) (i : Nat), ops[j]? = some o → (∀ e ∈ o.after.toList, Region.binds .any e = true → E e.on = true) →
    ((aheads ops []).getD j 0).testBit i = true → E i = true := by
  intro j
  induction j using Nat.strongRecOn with
  | _ j ih =>
    intro o i ho he hbit
    have h1 := aheads_at ops [] j o ho
    simp only [List.length_nil, Nat.zero_add] at h1
    rw [List.getD_eq_getElem?_getD, h1] at hbit
    obtain ⟨e, hem, hbd, hor⟩ := ahead_bit hbit
    rcases hor with rfl | hor
    · exact he e hem hbd
    · have hlt := backs_get ops 0 j o hb ho e hem hbd
      rw [Nat.zero_add] at hlt
      have hlen : j < ops.length := (List.getElem?_eq_some_iff.1 ho).1
      have ho' : ops[e.on]? = some ops[e.on] := List.getElem?_eq_getElem (by omega)
      refine ih e.on hlt _ i ho' (fun e' he' hbd' => hE e.on _ ho' (he e hem hbd) e' he' hbd') ?_
      rw [List.getD_eq_getElem?_getD, List.getElem?_take, if_pos hlt] at hor
      rw [List.getD_eq_getElem?_getD]
      exact hor
theorem clear1_get {τ : Type} {i : Nat} {r : Row τ} {ms : List Nat} : ∀ (rs : List (Row τ)) (j k : Nat) (s : Row τ), clear1 i r j rs ms = true → rs[k]? = some s → meddle r s = true → (ms.getD (j + k) 0).testBit i = true
  | s0 :: rs, j, 0, s, h, hk, hm => by
    simp only [List.getElem?_cons_zero, Option.some.injEq] at hk
    subst hk
    simp only [clear1, Bool.and_eq_true] at h
    rw [hm] at h
    exact h.1
  | s0 :: rs, j, k + 1, s, h, hk, hm => by
    simp only [clear1, Bool.and_eq_true] at h
    have := clear1_get rs (j + 1) k s h.2 (by simpa using hk) hm
    rwa [show j + 1 + k = j + (k + 1) from by omega] at this
theorem clearB_get {τ : Type} {ms : List Nat} : ∀ (rs : List (Row τ)) (i m k : Nat) (r s : Row τ), clearB ms i rs = true → rs[m]? = some r → rs[k]? = some s → m < k → meddle r s = true → (ms.getD (i + k) 0).testBit (i + m) = true
  | r0 :: rs, i, 0, k + 1, r, s, h, hm, hk, hlt, hmd => by
    simp only [List.getElem?_cons_zero, Option.some.injEq] at hm
    subst hm
    simp only [clearB, Bool.and_eq_true] at h
    have := clear1_get rs (i + 1) k s h.1 (by simpa using hk) hmd
    rwa [show i + 1 + k = i + (k + 1) from by omega] at this
  | r0 :: rs, i, m + 1, k + 1, r, s, h, hm, hk, hlt, hmd => by
    simp only [clearB, Bool.and_eq_true] at h
    have := clearB_get rs (i + 1) m k r s h.2 (by simpa using hm) (by simpa using hk) (by omega) hmd
    rwa [show i + 1 + k = i + (k + 1) from by omega, show i + 1 + m = i + (m + 1) from by omega] at this
theorem meets_of {a b : List Ref} {x : Ref} (ha : x ∈ a) (hb : x ∈ b) : meets a b = true := by
  unfold meets
  rw [List.any_eq_true]
  refine ⟨x, ha, ?_⟩
  rw [List.any_eq_true]
  exact ⟨x, hb, Ref.beq_spec.2 rfl⟩
theorem wpAny_draw {Γ : Gam D} (hΓ : GamOK P D Γ) {ops : Array Oper} {M : Mem} {w0 : World} {Q : Exit → Act → World → Prop} {nid : Nat} {S : St D.τ} {ds ds' : List (Dec D.τ)} {rs : List (Row D.τ)}
    (hrows : rows P D Γ ops nid ops.toList S ds = some (rs, ds')) (hps : AllPs rs) (hok : drawOk ops.toList rs = true) (hQ : ∀ a' w', R D M w0 (S.appRows rs) a' w' → Q .normal a' w') :
    ∀ (fuel : Nat) (listed : Array Bool) (a : Act) (w : World), listed.size = ops.size → (List.range ops.size).countP (fun i => !listed.getD i false) = fuel →
      Closed ops.toList (fun i => listed.getD i false) → R D M w0 (appE (fun i => listed.getD i false) 0 rs S) a w → wpAny P .any ops Q fuel listed a w := by
  obtain ⟨hlen, hget⟩ := rows_get ops.toList nid S ds ds' rs hrows
  simp only [drawOk, Bool.and_eq_true] at hok
  obtain ⟨hbk, hcl⟩ := hok
  have hlen' : rs.length = ops.size := by rw [hlen]; simp
  -- where all have been carried out
  have hdone : ∀ (listed : Array Bool) (a : Act) (w : World), (∀ i, i < ops.size → listed.getD i false = true) → R D M w0 (appE (fun i => listed.getD i false) 0 rs S) a w → Q .normal a w := by
    intro listed a w hall hR
    rw [appE_all rs 0 S (fun k hk => by rw [Nat.zero_add]; exact hall k (by omega))] at hR
    exact hQ a w hR
  intro fuel
  induction fuel with
  | zero =>
    intro listed a w hsz hcnt hcd hR
    have hall : ∀ i, i < ops.size → listed.getD i false = true := by
      intro i hi
      rw [List.countP_eq_zero] at hcnt
      have := hcnt i (List.mem_range.2 hi)
      simpa using this
    refine ⟨?_, hdone listed a w hall hR⟩
    cases hr : Region.ready .any ops listed with
    | nil => rfl
    | cons j rest =>
      have hj : j ∈ Region.ready .any ops listed := by rw [hr]; simp
      unfold Region.ready at hj
      rw [List.mem_filter] at hj
      obtain ⟨hj1, hj2⟩ := hj
      have hlt := List.mem_range.1 hj1
      simp only [Bool.and_eq_true] at hj2
      have h1 := hall j hlt
      have hs : j < listed.size := by omega
      simp [Array.getD, hs] at h1 hj2
      rw [h1] at hj2
      simp at hj2
  | succ fuel ih =>
    intro listed a w hsz hcnt hcd hR
    refine ⟨fun hr => ?_, fun i hi => ?_⟩
    · -- none is ready: then all have been carried out
      refine hdone listed a w (fun i => ?_) hR
      induction i using Nat.strongRecOn with
      | _ i ihi =>
        intro hi
        cases hli : listed.getD i false with
        | true => rfl
        | false =>
          have hin : i ∈ Region.ready .any ops listed := by
            unfold Region.ready
            rw [List.mem_filter]
            refine ⟨List.mem_range.2 hi, ?_⟩
            have ho : ops[i]? = some ops[i] := Array.getElem?_eq_getElem hi
            have ho' : ops.toList[i]? = some ops[i] := by simp [hi]
            rw [ho]
            have h2 : listed.getD i true = false := by
              have hs : i < listed.size := by omega
              simp [Array.getD, hs] at hli ⊢
              exact hli
            simp only [h2, Bool.not_false, Option.map_some, Option.getD_some, Bool.true_and]
            rw [← Array.all_toList, List.all_eq_true]
            intro e he
            cases hbd : Region.binds .any e with
            | false => rfl
            | true =>
              have hlt := backs_get ops.toList 0 i _ hbk ho' e he hbd
              rw [Nat.zero_add] at hlt
              have := ihi e.on hlt (by omega)
              simp [this]
          rw [hr] at hin
          cases hin
    · obtain ⟨hun, o, ho, hall⟩ := mem_ready.1 hi
      have hilt : i < ops.size := by
        rcases Nat.lt_or_ge i ops.size with h | h
        · exact h
        · rw [Array.getElem?_eq_none h] at ho; cases ho
      have hoL : ops.toList[i]? = some o := by rw [Array.getElem?_toList]; exact ho
      have hEi : listed.getD i false = false := by
        have hs : i < listed.size := by omega
        simp [Array.getD, hs] at hun ⊢
        exact hun
      have hbef : ∀ e ∈ o.after.toList, Region.binds .any e = true → (fun i => listed.getD i false) e.on = true := fun e he hbd => hall e (by simpa using he) hbd
      obtain ⟨row, r, l, d, hrow, hd, hrun, hrd, hus, hrps⟩ := hget i o hoL
      have hanc : ∀ k, ((aheads ops.toList []).getD i 0).testBit k = true → listed.getD k false = true := fun k hk => closed_ahead hbk hcd i o k hoL hbef hk
      have hdesc : ∀ k, k < ops.size → listed.getD k false = true → ((aheads ops.toList []).getD k 0).testBit i = true → False := by
        intro k hk hkE hbit
        have hok : ops.toList[k]? = some ops[k] := by simp [hk]
        have := closed_ahead hbk hcd k _ i hok (fun e he hbd => hcd k _ hok hkE e he hbd) hbit
        rw [hEi] at this
        cases this
      -- what it looks at is as in the text's order
      have hagree : ∀ x ∈ l, ag (S.appRows (rs.take i)) (appE (fun i => listed.getD i false) 0 rs S) x := by
        intro x hx
        have e0 := appE_take rs 0 i S
        rw [← e0]
        refine appE_ag rs 0 (fun k s hk hw => ?_) (ag_refl _ _)
        rw [Nat.zero_add, Nat.zero_add]
        have hklt : k < ops.size := by have := (List.getElem?_eq_some_iff.1 hk).1; omega
        have hxr : x ∈ row.reads := by rw [hrd]; exact hx
        rcases Nat.lt_trichotomy k i with hlt | heq | hgt
        · have hm : meddle s row = true := by unfold meddle; rw [meets_of hw hxr]; rfl
          have := clearB_get rs 0 k i s row hcl hk hrow hlt hm
          rw [Nat.zero_add, Nat.zero_add] at this
          rw [hanc k this]
          simp [hlt]
        · subst heq
          rw [hEi]
          simp
        · have hm : meddle row s = true := by unfold meddle; rw [meets_of hxr hw]; simp
          have := clearB_get rs 0 i k row s hcl hrow hk hgt hm
          rw [Nat.zero_add, Nat.zero_add] at this
          cases hkE : listed.getD k false with
          | true => exact (hdesc k hklt hkE this).elim
          | false => simp; omega
      have hrun' := run_local hrun hagree
      unfold wpOp
      rw [ho]
      refine gop_step hΓ hrun' (by rw [← hrps]; exact hps row (List.mem_of_getElem? hrow)) (by rw [appE_nt]; exact hd) hR (fun a' w' hR' => ?_)
      rw [← hus] at hR'
      -- the state behind it
      have hset : ∀ k, (listed.setIfInBounds i true).getD k false = if k = i then true else listed.getD k false := by
        intro k
        by_cases hk : k = i
        · subst hk
          rw [if_pos rfl]
          have hs : k < listed.size := by omega
          simp [Array.getD, hs]
        · rw [if_neg hk]
          exact getD_set_ne false (Ne.symm hk)
      have hst : (appE (fun i => listed.getD i false) 0 rs S).app row.us = appE (fun k => (listed.setIfInBounds i true).getD k false) 0 rs S := by
        refine St.ext' (by rw [app_nt, appE_nt, appE_nt]) (by rw [app_np, appE_np, appE_np]) (fun x => ?_)
        by_cases hx : x ∈ row.writes
        · refine ag_symm (appE_last rs 0 i S _ hrow hx (by rw [Nat.zero_add, hset]; simp) (fun k s hk hgt hE hw => ?_))
          rw [Nat.zero_add, hset, if_neg (by omega)] at hE
          have hklt : k < ops.size := by have := (List.getElem?_eq_some_iff.1 hk).1; omega
          have hm : meddle row s = true := by unfold meddle; rw [meets_of hx hw]; simp
          have := clearB_get rs 0 i k row s hcl hrow hk hgt hm
          rw [Nat.zero_add, Nat.zero_add] at this
          exact hdesc k hklt hE this
        · refine ag_trans (app_other _ _ hx) (appE_ag rs 0 (fun k s hk hw => ?_) (ag_refl _ _))
          rw [Nat.zero_add, hset]
          by_cases hki : k = i
          · subst hki
            rw [hrow] at hk
            simp only [Option.some.injEq] at hk
            subst hk
            exact absurd hw hx
          · rw [if_neg hki]
      rw [hst] at hR'
      refine ih (listed.setIfInBounds i true) a' w' (by simpa using hsz) ?_ ?_ hR'
      · -- one fewer is left
        have hcount : ∀ (L : List Nat), L.Nodup → i ∈ L → L.countP (fun k => !listed.getD k false) = L.countP (fun k => !(listed.setIfInBounds i true).getD k false) + 1 := by
          intro L
          induction L with
          | nil => intro _ h; cases h
          | cons k L ihL =>
            intro hnd hmem
            rw [List.nodup_cons] at hnd
            rw [List.countP_cons, List.countP_cons, hset k]
            by_cases hki : k = i
            · subst hki
              have hsame : L.countP (fun k => !listed.getD k false) = L.countP (fun j => !(listed.setIfInBounds k true).getD j false) := by
                refine List.countP_congr fun j hj => ?_
                rw [hset j, if_neg (by rintro rfl; exact hnd.1 hj)]
              rw [hsame]
              simp [hEi]
            · have := ihL hnd.2 (by simpa [Ne.symm hki] using hmem)
              rw [this, if_neg hki]
              omega
        have := hcount (List.range ops.size) List.nodup_range (List.mem_range.2 hilt)
        omega
      · intro j o' ho' hj e he hbd
        show (listed.setIfInBounds i true).getD e.on false = true
        rw [hset]
        by_cases hei : e.on = i
        · rw [if_pos hei]
        · rw [if_neg hei]
          have hj' : (listed.setIfInBounds i true).getD j false = true := hj
          rw [hset] at hj'
          by_cases hji : j = i
          · subst hji
            rw [hoL] at ho'
            simp only [Option.some.injEq] at ho'
            subst ho'
            exact hbef e he hbd
          · rw [if_neg hji] at hj'
            exact hcd j o' ho' hj' e he hbd
end
end Go.Abs
namespace Go.Abs
open Go.RowKit
section
variable (P : Program) (D : Dom)
def Ex.out : Ex → Exit
  | .normal => .normal
  | .exit id => .exit id
  | .ret => .ret
def SumOK (c : Code) (L : St D.τ → Option (Ex × St D.τ × List Prop)) : Prop :=
  ∀ S e S' ps, L S = some (e, S', ps) → (∀ p ∈ ps, p) → ∀ M w0 a w Q, R D M w0 S a w → (∀ a' w', R D M w0 S' a' w' → Q e.out a' w') → (Code.loop c).wp P Q a w
structure Out where
  e : Ex
  S : St D.τ
  ps : List Prop
  ds : List (Dec D.τ)
  nid : Nat
def rowPs {τ : Type} : List (Row τ) → List Prop
  | [] => []
  | r :: rs => r.ps ++ rowPs rs
def exec (Γ : Gam D) : Nat → Code → Nat → St D.τ → List (Dec D.τ) → Option (Out D)
  | 0, _, _, _, _ => none
  | f + 1, c, nid, S, ds =>
    match c with
    | .skip => some ⟨.normal, S, [], ds, nid⟩
    | .label _ => some ⟨.normal, S, [], ds, nid⟩
    | .ret => some ⟨.ret, S, [], ds, nid⟩
    | .exit id => some ⟨.exit id, S, [], ds, nid⟩
    | .seq a b => match exec Γ f a nid S ds with
      | some ⟨.normal, S1, p1, ds1, n1⟩ => match exec Γ f b n1 S1 ds1 with
        | some ⟨e, S2, p2, ds2, n2⟩ => some ⟨e, S2, p1 ++ p2, ds2, n2⟩
        | none => none
      | some o => some o
      | none => none
    | .cond x a b => match evalA S x with
      | some (.v (.one (.bool true v))) => exec Γ f (bif v then a else b) nid S ds
      | some (.v (.one (.bool false v))) => match ds with
        | .is u :: ds1 => match exec Γ f (bif u then a else b) nid S ds1 with
          | some ⟨e, S2, p2, ds2, n2⟩ => some ⟨e, S2, (v = u) :: p2, ds2, n2⟩
          | none => none
        | _ => none
      | _ => none
    | .block id a => match exec Γ f a nid S ds with
      | some ⟨.exit j, S1, p1, ds1, n1⟩ => bif Nat.beq j id then some ⟨.normal, S1, p1, ds1, n1⟩ else some ⟨.exit j, S1, p1, ds1, n1⟩
      | some o => some o
      | none => none
    | .scope a => exec Γ f a nid S ds
    | .loop a => match ds with
      | .loop L :: ds1 => match L S with
        | some (e, S1, p1) => some ⟨e, S1, SumOK P D a L :: p1, ds1, nid⟩
        | none => none
      | .roll :: ds => match exec Γ f a nid S ds with
        | some ⟨.normal, S1, p1, ds1, n1⟩ => match exec Γ f (.loop a) n1 S1 (.roll :: ds1) with
          | some ⟨e, S2, p2, ds2, n2⟩ => some ⟨e, S2, p1 ++ p2, ds2, n2⟩
          | none => none
        | some o => some o
        | none => none
      | _ => none
    | .region _ ops draw => match rows P D Γ ops nid ops.toList S ds with
      | some (rs, ds1) => bif !draw || drawOk ops.toList rs then some ⟨.normal, S.appRows rs, rowPs rs, ds1, nid + 16 * ops.toList.length⟩ else none
      | none => none
    | _ => none
end
section
variable {P : Program} {D : Dom}
theorem rowPs_all {τ : Type} : ∀ {rs : List (Row τ)}, (∀ p ∈ rowPs rs, p) → AllPs rs
  | [], _ => fun r hr => by cases hr
  | r :: rs, h => by
    intro r' hr' p hp
    rcases List.mem_cons.1 hr' with rfl | hr'
    · exact h p (List.mem_append_left _ hp)
    · exact rowPs_all (fun p hp => h p (List.mem_append_right _ hp)) r' hr' p hp
theorem wp_region_rows {Γ : Gam D} (hΓ : GamOK P D Γ) (hm : P.follows .mixedOrders = true) {id : Nat} {ops : Array Oper} {draw : Bool} {M : Mem} {w0 : World} {Q : Exit → Act → World → Prop} {nid : Nat} {S : St D.τ} {ds ds' : List (Dec D.τ)} {rs : List (Row D.τ)}
    (hrows : rows P D Γ ops nid ops.toList S ds = some (rs, ds')) (hps : AllPs rs) (hok : (!draw || drawOk ops.toList rs) = true) {a : Act} {w : World} (hR : R D M w0 S a w)
    (hQ : ∀ a' w', R D M w0 (S.appRows rs) a' w' → Q .normal a' w') : (Code.region id ops draw).wp P Q a w := by
  cases draw with
  | false =>
    refine wp_region ?_
    have h := wpOps_seq (Q := Q) hΓ ops.toList 0 nid S ds ds' rs a w (fun j => by rw [Nat.zero_add, Array.getElem?_toList]) hrows hps hR hQ
    rw [List.range_eq_range']
    simpa using h
  | true =>
    simp only [Bool.not_true, Bool.false_or] at hok
    have hR' : R D M w0 S a { w with drawn := w.drawn + 1 } := by
      obtain ⟨σ, ν, hRR, hA⟩ := hR
      exact ⟨σ, ν, ⟨fun b => BoxRel.stays _ _ w _ _ _ ⟨fun _ h => h, fun _ _ => rfl, fun _ _ => rfl, rfl, rfl, ⟨rfl, rfl⟩, Loc.le_refl _⟩ rfl rfl rfl (fun _ _ => rfl) (hRR.boxes b), hRR.disj, hRR.lo, ⟨hRR.kept.os, hRR.kept.tape, hRR.kept.output, hRR.kept.size, hRR.kept.block⟩, hRR.zk, hRR.zd, hRR.pins, hRR.glob, hRR.z0, hRR.zn⟩, hA⟩
    refine wp_region_any hm (wpAny_draw hΓ hrows hps hok hQ ops.size (Array.replicate ops.size false) a _ (by simp) ?_ ?_ ?_)
    · rw [List.countP_eq_length.2]
      · simp
      · intro i hi
        have := List.mem_range.1 hi
        simp [this]
    · intro j o ho hj
      have : (Array.replicate ops.size false).getD j false = false := by
        by_cases hj' : j < ops.size
        · simp [hj']
        · simp [Array.getD, hj']
      have hj' : (Array.replicate ops.size false).getD j false = true := hj
      rw [this] at hj'
      cases hj'
    · have : ∀ (rs : List (Row D.τ)) (i : Nat) (T : St D.τ), appE (fun i => (Array.replicate ops.size false).getD i false) i rs T = T := by
        intro rs
        induction rs with
        | nil => intro i T; rfl
        | cons r rs ih =>
          intro i T
          show appE _ (i + 1) rs (bif (Array.replicate ops.size false).getD i false then T.app r.us else T) = T
          have : (Array.replicate ops.size false).getD i false = false := by
            by_cases hj' : i < ops.size
            · simp [hj']
            · simp [Array.getD, hj']
          rw [this]
          exact ih (i + 1) T
      rw [this]
      exact hR'
def ExecOK (P : Program) (D : Dom) (Γ : Gam D) (f : Nat) (c : Code) : Prop := ∀ (nid : Nat) (S : St D.τ) (ds : List (Dec D.τ)) (o : Out D), exec P D Γ f c nid S ds = some o → (∀ p ∈ o.ps, p) →
    ∀ M w0 a w Q, R D M w0 S a w → (∀ a' w', R D M w0 o.S a' w' → Q o.e.out a' w') → c.wp P Q a w
theorem roll_sound {Γ : Gam D} {x : Code} {f : Nat} (ih : ∀ g, g ≤ f → ExecOK P D Γ g x) : ∀ (nid : Nat) (S : St D.τ) (ds : List (Dec D.τ)) (o : Out D), exec P D Γ (f + 1) (.loop x) nid S (.roll :: ds) = some o → (∀ p ∈ o.ps, p) →
    ∀ M w0 a w Q, R D M w0 S a w → (∀ a' w', R D M w0 o.S a' w' → Q o.e.out a' w') → (Code.loop x).wp P Q a w := by
  intro nid S ds o h hps M w0 a w Q hR hQ
  let I : Nat → Act → World → Prop := fun g a w => g ≤ f + 1 ∧ ∃ nid S ds o, exec P D Γ g (.loop x) nid S (.roll :: ds) = some o ∧ (∀ p ∈ o.ps, p) ∧ R D M w0 S a w ∧ ∀ a' w', R D M w0 o.S a' w' → Q o.e.out a' w'
  have hI0 : ∃ g, I g a w := ⟨f + 1, Nat.le_refl _, nid, S, ds, o, h, hps, hR, hQ⟩
  have hleast : ∀ a w, (∃ g, I g a w) → ∃ g, I g a w ∧ ∀ g', I g' a w → g ≤ g' := by
    intro a w ⟨g, hg⟩
    induction g using Nat.strongRecOn with
    | _ g ihg =>
      by_cases hex : ∃ g', g' < g ∧ I g' a w
      · obtain ⟨g', h1, h2⟩ := hex
        exact ihg g' h1 h2
      · refine ⟨g, hg, fun g' h' => ?_⟩
        rcases Nat.lt_or_ge g' g with h1 | h1
        · exact (hex ⟨g', h1, h'⟩).elim
        · exact h1
  let μ : Act → World → Nat := fun a w => open Classical in if h : ∃ g, I g a w then Classical.choose (hleast a w h) else 0
  have hμ : ∀ a w, (∃ g, I g a w) → I (μ a w) a w ∧ ∀ g', I g' a w → μ a w ≤ g' := by
    intro a w h
    have e : μ a w = Classical.choose (hleast a w h) := dif_pos h
    rw [e]
    exact Classical.choose_spec (hleast a w h)
  refine wp_loop (fun a w => ∃ g, I g a w) μ hI0 (fun a w hI => ?_)
  obtain ⟨⟨hle, nid, S, ds, o, h, hps, hR, hQ⟩, _⟩ := hμ a w hI
  generalize hg : μ a w = g at h hle
  cases g with
  | zero => simp [exec] at h
  | succ g =>
    simp only [exec] at h
    split at h
    · rename_i S1 p1 ds1 n1 h1
      split at h
      · rename_i e S2 p2 ds2 n2 h2
        simp only [Option.some.injEq] at h
        subst h
        refine ih g (by omega) nid S ds _ h1 (fun p hp => hps p (List.mem_append_left _ hp)) M w0 a w _ hR (fun a' w' hR' => ?_)
        have hI' : I g a' w' := ⟨by omega, n1, S1, ds1, _, h2, fun p hp => hps p (List.mem_append_right _ hp), hR', hQ⟩
        exact ⟨⟨g, hI'⟩, by have := (hμ a' w' ⟨g, hI'⟩).2 g hI'; omega⟩
      · cases h
    · rename_i o' hne h1
      simp only [Option.some.injEq] at h
      subst h
      refine ih g (by omega) nid S ds _ h1 hps M w0 a w _ hR (fun a' w' hR' => ?_)
      have := hQ a' w' hR'
      obtain ⟨e, S1, p1, ds1, n1⟩ := o'
      cases e
      case normal => exact (hne _ _ _ _ rfl).elim
      case exit id => exact this
      case ret => exact this
    · cases h
theorem exec_sound {Γ : Gam D} (hΓ : GamOK P D Γ) (hm : P.follows .mixedOrders = true) : ∀ (f : Nat) (c : Code), ExecOK P D Γ f c := by
  intro f
  induction f using Nat.strongRecOn with
  | _ f ihs =>
    intro c nid S ds o h hps M w0 a w Q hR hQ
    cases f with
    | zero => simp [exec] at h
    | succ f =>
    have ih : ∀ c, ExecOK P D Γ f c := ihs f (Nat.lt_succ_self f)
    unfold exec at h
    split at h
    · simp only [Option.some.injEq] at h; subst h; exact wp_skip (hQ a w hR)
    · simp only [Option.some.injEq] at h; subst h; exact wp_label (hQ a w hR)
    · simp only [Option.some.injEq] at h; subst h; exact wp_ret (hQ a w hR)
    · simp only [Option.some.injEq] at h; subst h; exact wp_exit (hQ a w hR)
    · rename_i x y
      split at h
      · rename_i S1 p1 ds1 n1 h1
        split at h
        · rename_i e S2 p2 ds2 n2 h2
          simp only [Option.some.injEq] at h
          subst h
          refine wp_seq (ih x nid S ds _ h1 (fun p hp => hps p (List.mem_append_left _ hp)) M w0 a w _ hR (fun a' w' hR' => ?_))
          exact ih y n1 S1 ds1 _ h2 (fun p hp => hps p (List.mem_append_right _ hp)) M w0 a' w' Q hR' hQ
        · cases h
      · rename_i o' hne h1
        simp only [Option.some.injEq] at h
        subst h
        refine wp_seq (ih x nid S ds _ h1 hps M w0 a w _ hR (fun a' w' hR' => ?_))
        have := hQ a' w' hR'
        obtain ⟨e, S1, p1, ds1, n1⟩ := o'
        cases e
        case normal => exact (hne _ _ _ _ rfl).elim
        case exit id => exact this
        case ret => exact this
      · cases h
    · rename_i x y z
      split at h
      · rename_i v hv
        obtain ⟨σ, ν, hRR, hA⟩ := id hR
        have hb := bool_rel (evalA_rel hA hv)
        refine wp_cond hb ?_
        have := ih _ nid S ds o h hps M w0 a w Q hR hQ
        cases v <;> exact this
      · rename_i v hv
        obtain ⟨σ, ν, hRR, hA⟩ := id hR
        have hb := bool_rel (evalA_rel hA hv)
        split at h
        · rename_i u ds1
          split at h
          · rename_i e S2 p2 ds2 n2 h2
            simp only [Option.some.injEq] at h
            subst h
            have huv : v = u := hps _ (by simp)
            subst huv
            refine wp_cond hb ?_
            have := ih _ nid S ds1 _ h2 (fun p hp => hps p (List.mem_cons_of_mem _ hp)) M w0 a w Q hR hQ
            cases v <;> exact this
          · cases h
        · cases h
      · cases h
    · rename_i id x
      split at h
      · rename_i j S1 p1 ds1 n1 h1
        cases hb : Nat.beq j id <;> simp only [hb, cond_true, cond_false, Option.some.injEq] at h
        · subst h
          refine wp_block (ih x nid S ds _ h1 hps M w0 a w _ hR (fun a' w' hR' => ?_))
          have hne : j ≠ id := fun e => by subst e; simp at hb
          have := hQ a' w' hR'
          simp only [Ex.out] at this ⊢
          simpa [Exit.inBlock, hne] using this
        · subst h
          refine wp_block (ih x nid S ds _ h1 hps M w0 a w _ hR (fun a' w' hR' => ?_))
          have he : j = id := Nat.eq_of_beq_eq_true hb
          have := hQ a' w' hR'
          simp only [Ex.out] at this ⊢
          simpa [Exit.inBlock, he] using this
      · rename_i o' hne h1
        simp only [Option.some.injEq] at h
        subst h
        refine wp_block (ih x nid S ds _ h1 hps M w0 a w _ hR (fun a' w' hR' => ?_))
        have := hQ a' w' hR'
        obtain ⟨e, S1, p1, ds1, n1⟩ := o'
        cases e
        case normal => exact this
        case exit id => exact (hne _ _ _ _ _ rfl).elim
        case ret => exact this
      · cases h
    · rename_i x
      refine wp_scope_straight (ih x nid S ds o h hps M w0 a w _ hR (fun a' w' hR' => ?_))
      have := hQ a' w' hR'
      cases he : o.e <;> rw [he] at this <;> exact this
    · rename_i x
      split at h
      · rename_i L ds1
        split at h
        · rename_i e S1 p1 h1
          simp only [Option.some.injEq] at h
          subst h
          have hs : SumOK P D x L := hps _ (by simp)
          exact hs S e S1 p1 h1 (fun p hp => hps p (List.mem_cons_of_mem _ hp)) M w0 a w Q hR hQ
        · cases h
      · rename_i ds1
        exact roll_sound (fun g hg => ihs g (Nat.lt_succ_of_le hg) x) nid S ds1 o (by simp only [exec]; exact h) hps M w0 a w Q hR hQ
      · cases h
    · rename_i id ops draw
      split at h
      · rename_i rs ds1 hrs
        cases hok : (!draw || drawOk ops.toList rs) <;> simp only [hok, cond_true, cond_false] at h
        · cases h
        · simp only [Option.some.injEq] at h
          subst h
          exact wp_region_rows hΓ hm hrs (rowPs_all hps) hok hR hQ
      · cases h
    · cases h
end
end Go.Abs
namespace Go.Abs
open Go.RowKit
section
variable (P : Program) (D : Dom)
def argSlots : Nat → List (A0 D.τ) → Nat → Option (AV D.τ)
  | _, [], _ => none
  | i, x :: xs, t => bif Nat.beq t i then some (.v x) else argSlots (i + 1) xs t
def St.start (n : Nat) (xs : List (A0 D.τ)) : St D.τ := ⟨argSlots D 0 xs, fun _ => .un, n, 0⟩
def giveP (S : St D.τ) (bs : List Nat) : Part D.τ → Option (Part D.τ × List Nat)
  | .own b => match S.box b with
    | .dyn e (.ints k l) => bif bs.any (Nat.beq b) then none else some (.fresh bs.length e k l, bs ++ [b])
    | _ => none
  | .int k l n => some (.int k l n, bs)
  | .bool l n => some (.bool l n, bs)
  | .str s => some (.str s, bs)
  | .nil => some (.nil, bs)
  | .tag t => some (.tag t, bs)
  | .ints k l => some (.ints k l, bs)
  | .tags s l => some (.tags s l, bs)
  | .arr k n l => some (.arr k n l, bs)
  | .nilp => some (.nilp, bs)
  | _ => none
def givePs (S : St D.τ) : List Nat → List (Part D.τ) → Option (List (Part D.τ) × List Nat)
  | bs, [] => some ([], bs)
  | bs, p :: ps => match giveP D S bs p with
    | some (q, b1) => match givePs S b1 ps with
      | some (qs, b2) => some (q :: qs, b2)
      | none => none
    | none => none
def give0 (S : St D.τ) (bs : List Nat) : A0 D.τ → Option (A0 D.τ × List Nat)
  | .one p => match giveP D S bs p with
    | some (q, b1) => some (.one q, b1)
    | none => none
  | .agg ps => match givePs D S bs ps with
    | some (qs, b1) => some (.agg qs, b1)
    | none => none
def give0s (S : St D.τ) : List Nat → List (A0 D.τ) → Option (List (A0 D.τ) × List Nat)
  | bs, [] => some ([], bs)
  | bs, p :: ps => match give0 D S bs p with
    | some (q, b1) => match give0s S b1 ps with
      | some (qs, b2) => some (q :: qs, b2)
      | none => none
    | none => none
def cellRes (S : St D.τ) (a : Nat) (ty : TypeId) : Option (A0 D.τ × List Prop) :=
  match szOf P ty with
  | none => none
  | some n => match S.slot a with
    | some (.v (.one (.ref b off))) => match S.box b with
      | .fixed _ [.ints k l] => bif aggB P ty && Nat.beq off 0 then some (.agg [.ints k l], [l.length = n]) else none
      | .fixed _ ps => match splitP D ps off n with
        | some (_, m, _) => match mkAV (aggB P ty) m with
          | some (.v x) => some (x, [])
          | _ => none
        | none => none
      | _ => none
    | _ => none
def resOne (S : St D.τ) : ResultVar → Option (A0 D.τ × List Prop)
  | .tmp t => match S.slot t with
    | some (.v a) => some (a, [])
    | _ => none
  | .cell a ty => cellRes P D S a ty
def resList (S : St D.τ) : List ResultVar → Option (List (A0 D.τ) × List Prop)
  | [] => some ([], [])
  | r :: rs => match resOne P D S r with
    | some (a, c) => match resList S rs with
      | some (as, cs) => some (a :: as, c ++ cs)
      | none => none
    | none => none
def fnRes (S : St D.τ) (rs : List ResultVar) : Option (AV D.τ × List Prop) :=
  match resList P D S rs with
  | some ([a], c) => match give0 D S [] a with
    | some (q, _) => some (.v q, c)
    | none => none
  | some (as, c) => match give0s D S [] as with
    | some (qs, _) => some (.tup qs, c)
    | none => none
  | none => none
def runF (Γ : Gam D) (fuel : Nat) (fn : Func) (xs : List (A0 D.τ)) (ds : List (Dec D.τ)) : Option (AV D.τ × List Prop) :=
  match fn.body with
  | some c => bif Nat.ble xs.length fn.ntmps then
      match exec P D Γ fuel c 0 (St.start D fn.ntmps xs) ds with
      | some ⟨.exit _, _, _, _, _⟩ => none
      | some ⟨_, S, ps, _, _⟩ => match fnRes P D S fn.results.toList with
        | some (r, qs) => some (r, ps ++ qs)
        | none => none
      | none => none
    else none
  | none => none
end
section
variable {P : Program} {D : Dom}
theorem argSlots_get : ∀ {xs : List (A0 D.τ)} {i t : Nat} {x : AV D.τ}, argSlots D i xs t = some x → ∃ a, i ≤ t ∧ xs[t - i]? = some a ∧ x = .v a
  | [], i, t, x, h => by cases h
  | a :: xs, i, t, x, h => by
    simp only [argSlots] at h
    cases hb : Nat.beq t i <;> simp only [hb, cond_true, cond_false] at h
    · obtain ⟨b, h1, h2, h3⟩ := argSlots_get h
      refine ⟨b, by omega, ?_, h3⟩
      rw [show t - i = (t - (i + 1)) + 1 from by omega]
      exact h2
    · have := Nat.eq_of_beq_eq_true hb
      subst this
      simp only [Option.some.injEq] at h
      exact ⟨a, Nat.le_refl _, by simp, h.symm⟩
theorem start_R {xs : List (A0 D.τ)} {vs : List Value} {w : World} {n : Nat} (hG : GlobAt D w) (hx : A0sRel D (cenv w) xs vs) (hl : vs.length ≤ n) :
    R D (noM w) w (St.start D n xs) ⟨vs.toArray ++ Array.replicate (n - vs.toArray.size) undef, []⟩ w := by
  refine ⟨⟨fun _ => 0, w, fun g => g < w.heap.size, fun _ _ => False⟩, fun _ => undef, ⟨fun _ => trivial, (fun _ _ _ _ h _ => by cases h), (fun _ _ h => by cases h), Kept.refl _ w, fun _ h => ⟨h, rfl⟩, (fun _ _ h => by cases h), fun b hb => absurd hb (Nat.not_lt_zero b), ⟨hG, fun _ _ _ _ h => h⟩, fun _ h => ⟨h, rfl⟩, fun _ h => .inl h⟩, ⟨?_, rfl, fun t av h => ?_⟩⟩
  · simp [St.start]; omega
  · obtain ⟨a, h1, h2, rfl⟩ := argSlots_get h
    obtain ⟨v, hv, hr⟩ := hx.get h2
    have hlt : t < vs.length := by
      rw [Nat.sub_zero] at hv
      exact (List.getElem?_eq_some_iff.1 hv).1
    have e : (vs.toArray ++ Array.replicate (n - vs.toArray.size) undef).getD t undef = v := by
      rw [Nat.sub_zero] at hv
      simp only [Array.getD_eq_getD_getElem?, Array.getElem?_append, List.size_toArray, hlt, if_true, List.getElem?_toArray, hv, Option.getD_some]
    show A0Rel D _ a _
    rw [e]
    exact hr
def GivOK (S : St D.τ) (bs : List Nat) : Prop := bs.Nodup ∧ ∀ b ∈ bs, ∃ e k l, S.box b = .dyn e (.ints k l)
def givν (ν : Nat → Value) (bs : List Nat) (i : Nat) : Value := ((bs[i]?).map ν).getD undef
theorem giveP_sound {w0 : World} {σ : Loc} {ν : Nat → Value} {S : St D.τ} {w : World} (hR : RR D (noM w0) w0 σ ν S w) {bs b1 : List Nat} {p q : Part D.τ} {cs : List Value}
    (h : giveP D S bs p = some (q, b1)) (hb : GivOK S bs) (hp : PartRel D (S.env D (noM w0) w0 σ ν) p cs) :
    GivOK S b1 ∧ (∃ x, b1 = bs ++ x) ∧ ∀ y, PartRel D (renv w0 w (givν ν (b1 ++ y))) q cs := by
  unfold giveP at h
  split at h
  · rename_i b
    split at h
    · rename_i e k l hbx
      cases hin : bs.any (Nat.beq b) <;> simp only [hin, cond_true, cond_false] at h
      · simp only [Option.some.injEq, Prod.mk.injEq] at h
        obtain ⟨rfl, rfl⟩ := h
        have hnot : b ∉ bs := fun hm => by
          have : bs.any (Nat.beq b) = true := List.any_eq_true.2 ⟨b, hm, by simp⟩
          rw [this] at hin; cases hin
        refine ⟨⟨?_, ?_⟩, ⟨_, rfl⟩, fun y => ?_⟩
        · rw [List.nodup_append]
          exact ⟨hb.1, by simp, fun a ha c hc => by simp at hc; subst hc; exact fun e => hnot (e ▸ ha)⟩
        · intro c hc
          rcases List.mem_append.1 hc with hc | hc
          · exact hb.2 c hc
          · simp at hc; subst hc; exact ⟨e, k, l, hbx⟩
        · obtain ⟨_, _, hcs⟩ := hp
          have hν : givν ν (bs ++ [b] ++ y) bs.length = ν b := by
            simp [givν]
          have hbox := hR.boxes b
          rw [hbx] at hbox
          obtain ⟨n, xs, ho, hxs, _⟩ := hbox
          have hxs' : xs = l.map (Value.int k) := hxs
          subst hxs'
          have ho : w.ownsL 0 e 1 (ν b) n (l.map (Value.int k)) := ho
          have hn : l.length = n := by simpa using ho.1
          subst hn
          refine ⟨by show cs = [givν ν _ bs.length]; rw [hν]; exact hcs, w, rfl, ?_⟩
          show w.ownsL w0.heap.size e 1 (givν ν _ bs.length) _ _
          rw [hν]
          refine ⟨ho.1, ?_⟩
          have hlo := hR.lo b
          rw [hbx] at hlo
          rcases ho.2 with hn | ⟨g, cap, cur, hv, _, rest⟩
          · exact .inl hn
          · refine .inr ⟨g, cap, cur, hv, ?_, rest⟩
            rcases hlo g (by show (ν b).ownBlock = some g; rw [show ν b = _ from hv]; rfl) with h1 | h1
            · exact h1
            · exact h1.elim
      · cases h
    · cases h
  all_goals first
    | (cases h; done)
    | (simp only [Option.some.injEq, Prod.mk.injEq] at h
       obtain ⟨rfl, rfl⟩ := h
       exact ⟨hb, ⟨[], by simp⟩, fun y => hp⟩)
theorem givePs_sound {w0 : World} {σ : Loc} {ν : Nat → Value} {S : St D.τ} {w : World} (hR : RR D (noM w0) w0 σ ν S w) : ∀ {ps qs : List (Part D.τ)} {bs b1 : List Nat} {cs : List Value},
    givePs D S bs ps = some (qs, b1) → GivOK S bs → PartsRel D (S.env D (noM w0) w0 σ ν) ps cs →
    GivOK S b1 ∧ (∃ x, b1 = bs ++ x) ∧ ∀ y, PartsRel D (renv w0 w (givν ν (b1 ++ y))) qs cs
  | [], qs, bs, b1, cs, h, hb, hp => by
    simp only [givePs, Option.some.injEq, Prod.mk.injEq] at h
    obtain ⟨rfl, rfl⟩ := h
    exact ⟨hb, ⟨[], by simp⟩, fun _ => hp⟩
  | p :: ps, qs, bs, b1, cs, h, hb, hp => by
    simp only [givePs] at h
    obtain ⟨c1, c2, rfl, hp1, hp2⟩ := hp
    cases h1 : giveP D S bs p with
    | none => simp [h1] at h
    | some x =>
      obtain ⟨q, b2⟩ := x
      simp only [h1] at h
      cases h2 : givePs D S b2 ps with
      | none => simp [h2] at h
      | some x =>
        obtain ⟨qs', b3⟩ := x
        simp only [h2, Option.some.injEq, Prod.mk.injEq] at h
        obtain ⟨rfl, rfl⟩ := h
        obtain ⟨g1, ⟨x1, e1⟩, r1⟩ := giveP_sound hR h1 hb hp1
        obtain ⟨g2, ⟨x2, e2⟩, r2⟩ := givePs_sound hR h2 g1 hp2
        refine ⟨g2, ⟨x1 ++ x2, by rw [e2, e1, List.append_assoc]⟩, fun y => ⟨c1, c2, rfl, ?_, r2 y⟩⟩
        rw [e2, List.append_assoc]
        exact r1 _
theorem give0_sound {w0 : World} {σ : Loc} {ν : Nat → Value} {S : St D.τ} {w : World} (hR : RR D (noM w0) w0 σ ν S w) {bs b1 : List Nat} {a q : A0 D.τ} {v : Value}
    (h : give0 D S bs a = some (q, b1)) (hb : GivOK S bs) (ha : A0Rel D (S.env D (noM w0) w0 σ ν) a v) :
    GivOK S b1 ∧ (∃ x, b1 = bs ++ x) ∧ ∀ y, A0Rel D (renv w0 w (givν ν (b1 ++ y))) q v := by
  cases a with
  | one p =>
    simp only [give0] at h
    cases h1 : giveP D S bs p with
    | none => simp [h1] at h
    | some x =>
      obtain ⟨q', b2⟩ := x
      simp only [h1, Option.some.injEq, Prod.mk.injEq] at h
      obtain ⟨rfl, rfl⟩ := h
      obtain ⟨g, e, r⟩ := giveP_sound hR h1 hb ha.2
      exact ⟨g, e, fun y => ⟨ha.1, r y⟩⟩
  | agg ps =>
    simp only [give0] at h
    obtain ⟨cs, rfl, hp⟩ := ha
    cases h1 : givePs D S bs ps with
    | none => simp [h1] at h
    | some x =>
      obtain ⟨q', b2⟩ := x
      simp only [h1, Option.some.injEq, Prod.mk.injEq] at h
      obtain ⟨rfl, rfl⟩ := h
      obtain ⟨g, e, r⟩ := givePs_sound hR h1 hb hp
      exact ⟨g, e, fun y => ⟨cs, rfl, r y⟩⟩
theorem give0s_sound {w0 : World} {σ : Loc} {ν : Nat → Value} {S : St D.τ} {w : World} (hR : RR D (noM w0) w0 σ ν S w) : ∀ {as qs : List (A0 D.τ)} {bs b1 : List Nat} {vs : List Value},
    give0s D S bs as = some (qs, b1) → GivOK S bs → A0sRel D (S.env D (noM w0) w0 σ ν) as vs →
    GivOK S b1 ∧ (∃ x, b1 = bs ++ x) ∧ ∀ y, A0sRel D (renv w0 w (givν ν (b1 ++ y))) qs vs
  | [], qs, bs, b1, cs, h, hb, hp => by
    simp only [give0s, Option.some.injEq, Prod.mk.injEq] at h
    obtain ⟨rfl, rfl⟩ := h
    exact ⟨hb, ⟨[], by simp⟩, fun _ => hp⟩
  | p :: ps, qs, bs, b1, cs, h, hb, hp => by
    simp only [give0s] at h
    obtain ⟨v, us, rfl, hp1, hp2⟩ := hp
    cases h1 : give0 D S bs p with
    | none => simp [h1] at h
    | some x =>
      obtain ⟨q, b2⟩ := x
      simp only [h1] at h
      cases h2 : give0s D S b2 ps with
      | none => simp [h2] at h
      | some x =>
        obtain ⟨qs', b3⟩ := x
        simp only [h2, Option.some.injEq, Prod.mk.injEq] at h
        obtain ⟨rfl, rfl⟩ := h
        obtain ⟨g1, ⟨x1, e1⟩, r1⟩ := give0_sound hR h1 hb hp1
        obtain ⟨g2, ⟨x2, e2⟩, r2⟩ := give0s_sound hR h2 g1 hp2
        refine ⟨g2, ⟨x1 ++ x2, by rw [e2, e1, List.append_assoc]⟩, fun y => ⟨v, us, rfl, ?_, r2 y⟩⟩
        rw [e2, List.append_assoc]
        exact r1 _
theorem givν_disj {w0 : World} {σ : Loc} {ν : Nat → Value} {S : St D.τ} {w : World} (hR : RR D (noM w0) w0 σ ν S w) {bs : List Nat} (hb : GivOK S bs) :
    ∀ i j g, i ≠ j → (givν ν bs i).ownBlock = some g → (givν ν bs j).ownBlock = some g → False := by
  intro i j g hne hi hj
  have key : ∀ i, (givν ν bs i).ownBlock = some g → ∃ b, bs[i]? = some b ∧ (ν b).ownBlock = some g := by
    intro i hi
    cases hq : bs[i]? with
    | none => simp [givν, hq, undef, Value.ownBlock] at hi
    | some b => exact ⟨b, rfl, by simpa [givν, hq] using hi⟩
  obtain ⟨b, hbi, h1⟩ := key i hi
  obtain ⟨c, hcj, h2⟩ := key j hj
  have hbc : b ≠ c := by
    intro e
    subst e
    obtain ⟨li, ei⟩ := List.getElem?_eq_some_iff.1 hbi
    obtain ⟨lj, ej⟩ := List.getElem?_eq_some_iff.1 hcj
    have hp := List.pairwise_iff_getElem.1 hb.1
    rcases Nat.lt_or_gt_of_ne hne with hlt | hlt
    · exact hp i j li lj hlt (ei.trans ej.symm)
    · exact hp j i lj li hlt (ej.trans ei.symm)
  obtain ⟨e, k, l, eb⟩ := hb.2 b (List.mem_of_getElem? hbi)
  obtain ⟨e', k', l', ec⟩ := hb.2 c (List.mem_of_getElem? hcj)
  refine hR.disj b c g hbc ?_ ?_
  · rw [eb]; exact h1
  · rw [ec]; exact h2
theorem cellRes_rel {M : Mem} {w0 : World} {σ : Loc} {ν : Nat → Value} {S : St D.τ} {w : World} {a : Act} (hR : RR D M w0 σ ν S w) (hA : RA D M w0 σ ν S a) {t : Nat} {ty : TypeId} {x : A0 D.τ} {c : List Prop}
    (h : cellRes P D S t ty = some (x, c)) (hc : ∀ p ∈ c, p) : ∃ v, (do loadVar ty (← asAddr (a.tmps.getD t undef)) : Sem Value).run P w = .ok v w ∧ A0Rel D (S.env D M w0 σ ν) x v := by
  unfold cellRes at h
  split at h
  · cases h
  rename_i n hsz
  split at h
  · rename_i b off hsl
    obtain ⟨hone, hal, hv⟩ := hA.slots _ _ hsl
    simp only [List.cons.injEq, and_true] at hv
    have hv' : a.tmps.getD t undef = .pointer (some ⟨σ b, off, none⟩) := hv
    have hb := hR.boxes b
    have hrun : ∀ {u : Value}, (loadVar ty ⟨σ b, off, none⟩).run P w = .ok u w → (do loadVar ty (← asAddr (a.tmps.getD t undef)) : Sem Value).run P w = .ok u w := by
      intro u hu
      rw [hv']
      simp [asAddr, hu]
    split at h
    · rename_i ty' k il hbx
      rw [hbx] at hb
      obtain ⟨cs, hg, hp⟩ := hb
      have hg' : w.heap[σ b]? = some (.cells cs ty' (0, 0)) := hg
      obtain ⟨c1, c2, e, hp1, hp2⟩ := hp
      cases hp2
      simp only [List.append_nil, PartRel] at e hp1
      subst hp1
      cases hbb : (aggB P ty && Nat.beq off 0) <;> simp only [hbb, cond_true, cond_false] at h
      · cases h
      · simp only [Bool.and_eq_true] at hbb
        simp only [Option.some.injEq, Prod.mk.injEq] at h
        obtain ⟨rfl, rfl⟩ := h
        have ho' : off = 0 := Nat.eq_of_beq_eq_true hbb.2
        subst ho'
        have hl : il.length = n := hc _ (by simp)
        have hcell := cells_at (w := w) hg' (c1 := []) (c2 := il.map (Value.int k)) (c3 := []) (by simpa using e)
        have hr := (run_loadVarB (P := P) (a := ⟨σ b, 0, none⟩) (cs := il.map (Value.int k)) (by rw [List.length_map, hl]; exact hsz) hcell).1 hbb.1
        exact ⟨_, hrun hr, _, rfl, _, [], by simp, rfl, rfl⟩
    · rename_i ty' ps hne hbx
      rw [hbx] at hb
      obtain ⟨cs, hg, hp⟩ := hb
      have hg' : w.heap[σ b]? = some (.cells cs ty' (0, 0)) := hg
      split at h
      · rename_i m1 m m2 hsp
        split at h
        · rename_i y hy
          simp only [Option.some.injEq, Prod.mk.injEq] at h
          obtain ⟨rfl, rfl⟩ := h
          obtain ⟨c1, c2, c3, he, hl1, hl2, hr1, hr2, hr3⟩ := splitP_sound hsp hp
          have hcell := cells_at (w := w) hg' he
          rw [hl1] at hcell
          have hr := run_loadVarB (P := P) (a := ⟨σ b, off, none⟩) (cs := c2) (by rw [hl2]; exact hsz) hcell
          rcases mkAV_rel hy hr2 with ⟨hg1, hy1⟩ | ⟨hg1, v, hv1, hy1⟩
          · exact ⟨_, hrun (hr.1 hg1), hy1⟩
          · exact ⟨_, hrun (hr.2 hg1 v hv1), hy1⟩
        · cases h
      · cases h
    · cases h
  · cases h
def resRun (tmps : Array Value) : ResultVar → Sem Value
  | .tmp t => pure (tmps.getD t undef)
  | .cell a t => do loadVar t (← asAddr (tmps.getD a undef))
theorem resList_rel {M : Mem} {w0 : World} {σ : Loc} {ν : Nat → Value} {S : St D.τ} {w : World} {a : Act} (hR : RR D M w0 σ ν S w) (hA : RA D M w0 σ ν S a) : ∀ {rs : List ResultVar} {as : List (A0 D.τ)} {c : List Prop}, resList P D S rs = some (as, c) → (∀ p ∈ c, p) →
    ∃ vs : List Value, (rs.mapM (resRun a.tmps)).run P w = .ok vs w ∧ A0sRel D (S.env D M w0 σ ν) as vs
  | [], as, c, h, hc => by
    simp only [resList, Option.some.injEq, Prod.mk.injEq] at h
    obtain ⟨rfl, rfl⟩ := h
    exact ⟨[], by simp, rfl⟩
  | r :: rs, as, c, h, hc => by
    simp only [resList] at h
    split at h
    · rename_i x c1 hx
      split at h
      · rename_i xs c2 hxs
        simp only [Option.some.injEq, Prod.mk.injEq] at h
        obtain ⟨rfl, rfl⟩ := h
        obtain ⟨vs, e, hr⟩ := resList_rel hR hA hxs (fun p hp => hc p (List.mem_append_right _ hp))
        have h1 : ∃ v, (resRun a.tmps r).run P w = .ok v w ∧ A0Rel D (S.env D M w0 σ ν) x v := by
          unfold resOne at hx
          split at hx
          · rename_i t
            split at hx
            · rename_i y hy
              simp only [Option.some.injEq, Prod.mk.injEq] at hx
              obtain ⟨rfl, rfl⟩ := hx
              exact ⟨_, by simp only [resRun, Sem.run_pure], hA.slots t _ hy⟩
            · cases hx
          · exact cellRes_rel hR hA hx (fun p hp => hc p (List.mem_append_left _ hp))
        obtain ⟨v, hv, hxv⟩ := h1
        exact ⟨v :: vs, by rw [List.mapM_cons]; simp only [Sem.run_bind, hv, e, Result.andThen_ok, Sem.run_pure], v, vs, rfl, hxv, hr⟩
      · cases h
    · cases h
def retOf : List Value → Value
  | [v] => v
  | vs => .tuple vs.toArray
theorem results_eq (fn : Func) (tmps : Array Value) : results fn tmps = (do let vs ← fn.results.mapM (resRun tmps); pure (if h : vs.size = 1 then vs[0] else .tuple vs)) := by
  unfold results
  congr 1
theorem run_mapRes {f : ResultVar → Sem Value} {rs : Array ResultVar} {w : World} {vs : List Value} (h : (rs.toList.mapM f).run P w = .ok vs w) :
    ((do let vs ← rs.mapM f; pure (if h : vs.size = 1 then vs[0] else .tuple vs)) : Sem Value).run P w = .ok (retOf vs) w := by
  obtain ⟨l⟩ := rs
  simp only [List.mapM_toArray, Sem.run_bind, Sem.run_map]
  rw [h]
  simp only [Result.andThen_ok, Sem.run_pure]
  rcases vs with _ | ⟨t, _ | ⟨t', ts⟩⟩ <;> simp [retOf]
theorem run_results {fn : Func} {tmps : Array Value} {w : World} {vs : List Value} (h : (fn.results.toList.mapM (resRun tmps)).run P w = .ok vs w) :
    (results fn tmps).run P w = .ok (retOf vs) w := by
  rw [results_eq]
  exact run_mapRes h
theorem fnRes_rel {w0 : World} {σ : Loc} {ν : Nat → Value} {S : St D.τ} {w : World} {a : Act} (hR : RR D (noM w0) w0 σ ν S w) (hA : RA D (noM w0) w0 σ ν S a) {fn : Func} {r : AV D.τ} {c : List Prop}
    (h : fnRes P D S fn.results.toList = some (r, c)) (hc : ∀ p ∈ c, p) : ∃ v, (results fn a.tmps).run P w = .ok v w ∧ RRes D w0 w r v := by
  unfold fnRes at h
  split at h
  · rename_i x c1 hx
    split at h
    · rename_i q b1 hq
      simp only [Option.some.injEq, Prod.mk.injEq] at h
      obtain ⟨rfl, rfl⟩ := h
      obtain ⟨vs, e, hr⟩ := resList_rel hR hA hx hc
      refine ⟨_, run_results e, ?_⟩
      obtain ⟨v, us, hv, h1, h2⟩ := hr
      cases h2
      subst hv
      obtain ⟨g, _, hrel⟩ := give0_sound hR hq ⟨List.nodup_nil, by simp⟩ h1
      have := hrel []
      rw [List.append_nil] at this
      exact ⟨givν ν b1, givν_disj hR g, this⟩
    · cases h
  · rename_i as c1 hne hx
    split at h
    · rename_i q b1 hq
      simp only [Option.some.injEq, Prod.mk.injEq] at h
      obtain ⟨rfl, rfl⟩ := h
      obtain ⟨vs, e, hr⟩ := resList_rel hR hA hx hc
      refine ⟨_, run_results e, ?_⟩
      obtain ⟨g, _, hrel⟩ := give0s_sound hR hq ⟨List.nodup_nil, by simp⟩ hr
      have h2 := hrel []
      rw [List.append_nil] at h2
      refine ⟨givν ν b1, givν_disj hR g, ?_⟩
      unfold retOf
      split
      · rcases as with _ | ⟨x, _ | ⟨y, as⟩⟩
        · cases hr
        · exact (hne _ rfl).elim
        · obtain ⟨_, _, e2, _, _, _, e3, _⟩ := hr
          subst e3
          simp at e2
      · exact ⟨_, rfl, h2⟩
    · cases h
  · cases h
theorem Kept.below {w w' : World} (h : Kept (noM w) w w') : Below w.heap.size w w' :=
  ⟨h.os, h.tape, h.output, h.size, fun k hk => h.block k hk fun h => h⟩
theorem runF_calls {Γ : Gam D} (hΓ : GamOK P D Γ) (hm : P.follows .mixedOrders = true) {f : FuncId} {fn : Func} (hf : P.funcs[f]? = some fn) {fuel : Nat} {xs : List (A0 D.τ)} {ds : List (Dec D.τ)} {r : AV D.τ} {ps : List Prop}
    (h : runF P D Γ fuel fn xs ds = some (r, ps)) (hps : ∀ p ∈ ps, p) {w : World} {vs : List Value} (hG : GlobAt D w) (hx : A0sRel D (cenv w) xs vs) :
    Calls P f vs.toArray w fun e w' => ∃ v, e = .returned v ∧ RRes D w w' r v ∧ Below w.heap.size w w' := by
  unfold runF at h
  split at h
  · rename_i c hc
    cases hb : Nat.ble xs.length fn.ntmps <;> simp only [hb, cond_true, cond_false] at h
    · cases h
    have hlen : vs.length = xs.length := by
      clear h hb
      induction xs generalizing vs with
      | nil => cases hx; rfl
      | cons x xs ih => obtain ⟨v, us, rfl, _, h2⟩ := hx; simp [ih h2]
    have hn : vs.length ≤ fn.ntmps := by rw [hlen]; exact Nat.le_of_ble_eq_true hb
    refine calls_of_wp hf hc ?_
    split at h
    · cases h
    · rename_i e S qs ds1 n1 hne he
      split at h
      · rename_i r' qs' hr
        simp only [Option.some.injEq, Prod.mk.injEq] at h
        obtain ⟨rfl, rfl⟩ := h
        refine exec_sound hΓ hm fuel c 0 _ _ _ he (fun p hp => hps p (List.mem_append_left _ hp)) (noM w) w _ _ _ (start_R hG hx hn) (fun a' w' hR => ?_)
        obtain ⟨σ, ν, hR, hA⟩ := hR
        obtain ⟨v, hv, hres⟩ := fnRes_rel hR hA hr (fun p hp => hps p (List.mem_append_right _ hp))
        have hfin : a'.defers = [] ∧ ∃ v, (results fn a'.tmps).run P w' = .ok v w' ∧ ∃ v', Ending.returned v = .returned v' ∧ RRes D w w' r' v' ∧ Below w.heap.size w w' :=
          ⟨hA.defers, v, hv, v, rfl, hres, hR.kept.below⟩
        cases e
        · exact hfin
        · exact (hne _ rfl).elim
        · exact hfin
      · cases h
    · cases h
  · cases h
end
end Go.Abs
namespace Go.Abs
open Go.RowKit
structure Sn (τ : Type) where
  slots : List (Nat × AV τ)
  boxes : List (Nat × BoxSt τ)
  nt : Nat
  np : Nat := 0
def orUn {τ : Type} : Option (BoxSt τ) → BoxSt τ
  | some s => s
  | none => .un
def Sn.st {τ : Type} (s : Sn τ) : St τ := ⟨assoc s.slots, fun b => orUn (assoc s.boxes b), s.nt, s.np⟩
section
variable (D : Dom)
def seekL (ρ : List (Nat × Nat)) : List Nat → List Nat → List (Nat × Nat)
  | b :: bs, c :: cs => seekL ((b, c) :: ρ) bs cs
  | _, _ => ρ
def seekC (ρ : List (Nat × Nat)) : List C1 → List C1 → List (Nat × Nat)
  | .o b :: cs, .o c :: ds => seekC ((b, c) :: ρ) cs ds
  | _ :: cs, _ :: ds => seekC ρ cs ds
  | _, _ => ρ
def seekP (ρ : List (Nat × Nat)) : Part D.τ → Part D.τ → List (Nat × Nat)
  | .ref b _, .ref c _ => (b, c) :: ρ
  | .oref b _, .oref c _ => (b, c) :: ρ
  | .own b, .own c => (b, c) :: ρ
  | .view b _ _ _, .view c _ _ _ => (b, c) :: ρ
  | .aref b _ _ _, .aref c _ _ _ => (b, c) :: ρ
  | .av b _ _ _ _ _, .av c _ _ _ _ _ => (b, c) :: ρ
  | .own b, .nil => (b, nilB + b) :: ρ
  | .ifr _ b _, .ifr _ c _ => (b, c) :: ρ
  | .mapr b, .mapr c => (b, c) :: ρ
  | .clo _ bs, .clo _ cs => seekL ρ bs cs
  | .rec1 cs, .rec1 ds => seekC ρ cs ds
  | _, _ => ρ
def seekPs (ρ : List (Nat × Nat)) : List (Part D.τ) → List (Part D.τ) → List (Nat × Nat)
  | p :: ps, q :: qs => seekPs (seekP D ρ p q) ps qs
  | _, _ => ρ
def seek0 (ρ : List (Nat × Nat)) : A0 D.τ → A0 D.τ → List (Nat × Nat)
  | .one p, .one q => seekP D ρ p q
  | .agg ps, .agg qs => seekPs D ρ ps qs
  | _, _ => ρ
def seek0s (ρ : List (Nat × Nat)) : List (A0 D.τ) → List (A0 D.τ) → List (Nat × Nat)
  | p :: ps, q :: qs => seek0s (seek0 D ρ p q) ps qs
  | _, _ => ρ
def seekSlots (S : St D.τ) (ρ : List (Nat × Nat)) : List (Nat × AV D.τ) → List (Nat × Nat)
  | [] => ρ
  | (t, .v a) :: r => match S.slot t with
    | some (.v b) => seekSlots S (seek0 D ρ a b) r
    | _ => seekSlots S ρ r
  | (t, .tup as) :: r => match S.slot t with
    | some (.tup bs) => seekSlots S (seek0s D ρ as bs) r
    | _ => seekSlots S ρ r
def seekBoxes (S : St D.τ) (ρ : List (Nat × Nat)) : List (Nat × BoxSt D.τ) → List (Nat × Nat)
  | [] => ρ
  | (b, .fixed _ ps) :: r => match assoc ρ b with
    | some c => match S.box c with
      | .fixed _ qs => seekBoxes S (seekPs D ρ ps qs) r
      | _ => seekBoxes S ρ r
    | none => seekBoxes S ρ r
  | (b, .dyn _ (.rec1 cs)) :: r => match assoc ρ b with
    | some c => match S.box c with
      | .dyn _ (.rec1 ds) => seekBoxes S (seekC ρ cs ds) r
      | _ => seekBoxes S ρ r
    | none => seekBoxes S ρ r
  | (b, .fam _ _ (some (_, ps))) :: r => match assoc ρ b with
    | some c => match S.box c with
      | .fam _ _ (some (_, qs)) => seekBoxes S (seekPs D ρ ps qs) r
      | _ => seekBoxes S ρ r
    | none => seekBoxes S ρ r
  | _ :: r => seekBoxes S ρ r
def fitSlots (ρ : List (Nat × Nat)) (S : St D.τ) : List (Nat × AV D.τ) → Option (List Prop)
  | [] => some []
  | (t, a) :: r => match S.slot t with
    | some b => match fitA D ρ a b with
      | some xs => match fitSlots ρ S r with
        | some ys => some (xs ++ ys)
        | none => none
      | none => none
    | none => none
def fitBoxes (ρ : List (Nat × Nat)) (S : St D.τ) : List (Nat × BoxSt D.τ) → Option (List Prop)
  | [] => some []
  | (b, s) :: r => match assoc ρ b with
    | some c => match fitB D ρ s (S.box c) with
      | some xs => match fitBoxes ρ S r with
        | some ys => some (xs ++ ys)
        | none => none
      | none => none
    | none => none
def keysOk (s : Sn D.τ) (ρ : List (Nat × Nat)) : Bool :=
  ρ.all fun x => (match orUn (assoc s.boxes x.1) with | .un => false | _ => true) && ρ.all fun y => bif Nat.beq x.2 y.2 then Nat.beq x.1 y.1 else true
def pins0 : Nat → List (Nat × Nat)
  | 0 => []
  | n + 1 => (n, n) :: pins0 n
def pinsOk (ρ : List (Nat × Nat)) : Nat → Bool
  | 0 => true
  | n + 1 => isKey ρ n n && pinsOk ρ n
def putAll : List Nat → St D.τ → Option (St D.τ × List Prop)
  | [], S => some (S, [])
  | b :: bs, S => match S.box b with
    | .fam k es (some (key, ps)) => match D.fam k with
      | some fd => match (putBack D k b fd es key ps).run S with
        | some ((us, es', qs), _) => match putAll bs (S.app ((us ++ [(b, BoxSt.fam k es' none)]).map fun (x : Nat × BoxSt D.τ) => Upd.box x.1 x.2)) with
          | some (S', rs) => some (S', qs ++ rs)
          | none => none
        | none => none
      | none => none
    | _ => putAll bs S
def famIds (ρ : List (Nat × Nat)) : List (Nat × BoxSt D.τ) → List Nat
  | [] => []
  | (b, .fam _ _ none) :: r => match assoc ρ b with
    | some c => c :: famIds ρ r
    | none => famIds ρ r
  | _ :: r => famIds ρ r
def emptyP : Part D.τ → Option (Part D.τ)
  | .lrs sh _ => some (.lrs sh [])
  | .ints k _ => some (.ints k [])
  | .lws k _ => some (.lws k [])
  | _ => none
def addNil (ρ : List (Nat × Nat)) : List (Nat × BoxSt D.τ) → St D.τ → Option (St D.τ)
  | [], S => some S
  | (b, t) :: r, S => bif isKey ρ b (nilB + b) then match t with
      | .dyn e p => match emptyP D p with
        | some p0 => match S.box (nilB + b) with
          | .un => addNil ρ r (S.upd (.box (nilB + b) (.dyn e p0)))
          | _ => none
        | none => none
      | _ => none
    else addNil ρ r S
def fitSt (S0 : St D.τ) (s : Sn D.τ) : Option (List Prop) :=
  let ρ := seekBoxes D S0 (seekSlots D S0 (pins0 S0.np) s.slots) s.boxes
  match putAll D (famIds D ρ s.boxes) S0 with
  | some (S1, zs) => match addNil D ρ s.boxes S1 with
    | some S =>
      bif (Nat.beq S.nt s.nt && Nat.beq S.np s.np) && (pinsOk ρ S.np && keysOk D s ρ) then
        match fitSlots D ρ S s.slots with
        | some xs => match fitBoxes D ρ S s.boxes with
          | some ys => some (zs ++ (xs ++ ys))
          | none => none
        | none => none
      else none
    | none => none
  | none => none
end
section
variable {P : Program} {D : Dom}
theorem pinsOk_spec {ρ : List (Nat × Nat)} : ∀ {n : Nat}, pinsOk ρ n = true → ∀ b, b < n → assoc ρ b = some b
  | 0, _, b, hb => by omega
  | n + 1, h, b, hb => by
    simp only [pinsOk, Bool.and_eq_true] at h
    by_cases e : b = n
    · subst e; exact isKey_spec h.1
    · exact pinsOk_spec h.2 b (by omega)
theorem fitSlots_mem {ρ : List (Nat × Nat)} {S : St D.τ} : ∀ {l : List (Nat × AV D.τ)} {xs : List Prop}, fitSlots D ρ S l = some xs → AllQ xs → ∀ x ∈ l, ∃ b ys, S.slot x.1 = some b ∧ fitA D ρ x.2 b = some ys ∧ AllQ ys
  | [], _, _, _ => fun x h => by cases h
  | (t, a) :: r, xs, h, hx => by
    simp only [fitSlots] at h
    split at h
    · rename_i b hb
      split at h
      · rename_i x1 h1
        split at h
        · rename_i x2 h2
          simp only [Option.some.injEq] at h
          subst h
          intro x hm
          rcases List.mem_cons.1 hm with rfl | hm
          · exact ⟨b, x1, hb, h1, hx.append.1⟩
          · exact fitSlots_mem h2 hx.append.2 x hm
        · cases h
      · cases h
    · cases h
theorem fitBoxes_mem {ρ : List (Nat × Nat)} {S : St D.τ} : ∀ {l : List (Nat × BoxSt D.τ)} {xs : List Prop}, fitBoxes D ρ S l = some xs → AllQ xs → ∀ x ∈ l, ∃ c ys, assoc ρ x.1 = some c ∧ fitB D ρ x.2 (S.box c) = some ys ∧ AllQ ys
  | [], _, _, _ => fun x h => by cases h
  | (t, a) :: r, xs, h, hx => by
    simp only [fitBoxes] at h
    split at h
    · rename_i c hc
      split at h
      · rename_i x1 h1
        split at h
        · rename_i x2 h2
          simp only [Option.some.injEq] at h
          subst h
          intro x hm
          rcases List.mem_cons.1 hm with rfl | hm
          · exact ⟨c, x1, hc, h1, hx.append.1⟩
          · exact fitBoxes_mem h2 hx.append.2 x hm
        · cases h
      · cases h
    · cases h
theorem putAll_sound {M : Mem} {w0 : World} {a : Act} {w : World} : ∀ {bs : List Nat} {S S' : St D.τ} {qs : List Prop}, putAll D bs S = some (S', qs) → AllQ qs → R D M w0 S a w → R D M w0 S' a w
  | [], S, S', qs, h, _, hR => by
    simp only [putAll, Option.some.injEq, Prod.mk.injEq] at h
    rw [← h.1]; exact hR
  | b :: bs, S, S', qs, h, hq, hR => by
    simp only [putAll] at h
    split at h
    · rename_i k es key ps hbx
      split at h
      · rename_i fd hfd
        split at h
        · rename_i us es' q1 l hpb
          split at h
          · rename_i S1 rs h1
            simp only [Option.some.injEq, Prod.mk.injEq] at h
            obtain ⟨rfl, rfl⟩ := h
            refine putAll_sound h1 hq.append.2 ?_
            obtain ⟨σ, ν, hRR, hA⟩ := hR
            obtain ⟨φ, r1, r2, _⟩ := putBack_sound hRR hbx hfd hpb hq.append.1
            exact ⟨_, ν, r1, hA.mono r2 (bx_slot _ S).1 (bx_slot _ S).2⟩
          · cases h
        · cases h
      · cases h
    · exact putAll_sound h hq hR
theorem empty_rel {E : Env} {p p0 : Part D.τ} (h : emptyP D p = some p0) : PartRel D E p0 [] := by
  unfold emptyP at h
  split at h
  · simp only [Option.some.injEq] at h; subst h; exact ⟨by simp, fun i r h => by simp at h⟩
  · simp only [Option.some.injEq] at h; subst h; rfl
  · simp only [Option.some.injEq] at h; subst h; exact ⟨rfl, fun i u h => by simp at h⟩
  · cases h
theorem RR.nilBox {M : Mem} {w0 : World} {σ : Loc} {ν : Nat → Value} {S : St D.τ} {w : World} (hR : RR D M w0 σ ν S w) {c : Nat} {e : TypeId} {p p0 : Part D.τ} (hun : S.box c = .un) (hp : emptyP D p = some p0) :
    RR D M w0 σ (setN ν c (.slice none 0 0)) (S.upd (.box c (.dyn e p0))) w ∧ (S.env D M w0 σ ν).le ((S.upd (.box c (.dyn e p0))).env D M w0 σ (setN ν c (.slice none 0 0))) := by
  have hle : (S.env D M w0 σ ν).le ((S.upd (.box c (.dyn e p0))).env D M w0 σ (setN ν c (.slice none 0 0))) :=
    env_le_box hun (fun _ _ => rfl) (fun b h => setN_other _ _ h) (Loc.le_refl σ)
  have hno : ∀ g, ¬ Fp D ((S.upd (.box c (.dyn e p0))).env D M w0 σ (setN ν c (.slice none 0 0))) c ((S.upd (.box c (.dyn e p0))).box c) g := by
    intro g hg
    rw [upd_box_same] at hg
    have : (setN ν c (.slice none 0 0) c).ownBlock = some g := hg
    rw [setN_same] at this
    cases this
  refine ⟨hR.step hle (· = c) ?_ ?_ ?_ ?_ hR.kept rfl hR.zk ?_ (fun b g _ h _ => hR.zd b g h) (fun g h => .inl h), hle⟩
  · rintro b rfl
    rw [upd_box_same]
    refine ⟨0, [], ?_, empty_rel hp, ?_⟩
    · show w.ownsL 0 e (esz D p0) (setN ν b (.slice none 0 0) b) 0 []
      rw [setN_same]; exact World.ownsL_nil _ _ _ _
    · show (setN ν b (.slice none 0 0) b).oneCell' = true
      rw [setN_same]; rfl
  · intro b hb
    exact .inl ⟨upd_box_other S _ hb, fun _ _ => rfl⟩
  · rintro b b' g rfl hne h1 h2
    exact hno g h1
  · rintro b g rfl h
    exact (hno g h).elim
  · rintro b g rfl h
    exact (hno g h).elim
theorem addNil_sound {ρ : List (Nat × Nat)} {M : Mem} {w0 : World} {σ : Loc} {a : Act} {w : World} : ∀ {l : List (Nat × BoxSt D.τ)} {S S' : St D.τ} {ν : Nat → Value}, addNil D ρ l S = some S' → RR D M w0 σ ν S w → RA D M w0 σ ν S a →
    ∃ ν', RR D M w0 σ ν' S' w ∧ RA D M w0 σ ν' S' a ∧ (∀ c, (S.box c).al → ν' c = ν c) ∧ ∀ x ∈ l, assoc ρ x.1 = some (nilB + x.1) → ν' (nilB + x.1) = .slice none 0 0
  | [], S, S', ν, h, hR, hA => by
    simp only [addNil, Option.some.injEq] at h
    subst h
    exact ⟨ν, hR, hA, fun _ _ => rfl, fun x hx => by cases hx⟩
  | (b, t) :: r, S, S', ν, h, hR, hA => by
    simp only [addNil] at h
    cases hk : isKey ρ b (nilB + b) <;> simp only [hk, cond_true, cond_false] at h
    · obtain ⟨ν', h1, h2, h3, h4⟩ := addNil_sound h hR hA
      refine ⟨ν', h1, h2, h3, fun x hx hxa => ?_⟩
      rcases List.mem_cons.1 hx with rfl | hx
      · have hk' : isKey ρ b (nilB + b) = true := by
          unfold isKey
          have : assoc ρ b = some (nilB + b) := hxa
          rw [this]; exact Nat.beq_refl _
        rw [hk] at hk'; cases hk'
      · exact h4 x hx hxa
    · split at h
      · rename_i e p
        split at h
        · rename_i p0 hp0
          split at h
          · rename_i hun
            obtain ⟨r1, r2⟩ := hR.nilBox (e := e) hun hp0
            obtain ⟨ν', h1, h2, h3, h4⟩ := addNil_sound h r1 (hA.mono r2 rfl rfl)
            have hc : ν' (nilB + b) = .slice none 0 0 := by
              rw [h3 (nilB + b) (by rw [upd_box_same]; trivial), setN_same]
            refine ⟨ν', h1, h2, fun c hcal => ?_, fun x hx hxa => ?_⟩
            · have hne : c ≠ nilB + b := fun e => by rw [e, hun] at hcal; exact hcal
              rw [h3 c (by rw [upd_box_other S _ hne]; exact hcal), setN_other _ _ hne]
            · rcases List.mem_cons.1 hx with rfl | hx
              · exact hc
              · exact h4 x hx hxa
          · cases h
        · cases h
      · cases h
theorem putAll_np : ∀ {bs : List Nat} {S S' : St D.τ} {qs : List Prop}, putAll D bs S = some (S', qs) → S'.np = S.np
  | [], S, S', qs, h => by
    simp only [putAll, Option.some.injEq, Prod.mk.injEq] at h
    rw [← h.1]
  | b :: bs, S, S', qs, h => by
    simp only [putAll] at h
    split at h
    · split at h
      · split at h
        · split at h
          · rename_i S1 rs h1
            simp only [Option.some.injEq, Prod.mk.injEq] at h
            obtain ⟨rfl, _⟩ := h
            exact (putAll_np h1).trans (bx_np _ S)
          · cases h
        · cases h
      · cases h
    · exact putAll_np h
theorem addNil_np {ρ : List (Nat × Nat)} : ∀ {l : List (Nat × BoxSt D.τ)} {S S' : St D.τ}, addNil D ρ l S = some S' → S'.np = S.np
  | [], S, S', h => by
    simp only [addNil, Option.some.injEq] at h
    rw [h]
  | (b, t) :: r, S, S', h => by
    simp only [addNil] at h
    cases hk : isKey ρ b (nilB + b) <;> simp only [hk, cond_true, cond_false] at h
    · exact addNil_np h
    · split at h
      · split at h
        · split at h
          · exact (addNil_np h).trans rfl
          · cases h
        · cases h
      · cases h
theorem fitSt_np {S : St D.τ} {s : Sn D.τ} {xs : List Prop} (h : fitSt D S s = some xs) : S.np = s.np := by
  unfold fitSt at h
  generalize seekBoxes D S (seekSlots D S (pins0 S.np) s.slots) s.boxes = ρ at h
  simp only at h
  split at h
  case h_2 => cases h
  rename_i S1 zs hput
  split at h
  case h_2 => cases h
  rename_i S2 hnil
  cases hb : ((Nat.beq S2.nt s.nt && Nat.beq S2.np s.np) && (pinsOk ρ S2.np && keysOk D s ρ)) <;> simp only [hb, cond_true, cond_false] at h
  · cases h
  simp only [Bool.and_eq_true] at hb
  rw [← putAll_np hput, ← addNil_np hnil]
  exact Nat.eq_of_beq_eq_true hb.1.2
theorem fitSt_sound {S : St D.τ} {s : Sn D.τ} {xs : List Prop} (h : fitSt D S s = some xs) (hx : AllQ xs) {M : Mem} {w0 : World} {a : Act} {w : World} (hR : R D M w0 S a w) : R D M w0 s.st a w := by
  unfold fitSt at h
  generalize seekBoxes D S (seekSlots D S (pins0 S.np) s.slots) s.boxes = ρ at h
  simp only at h
  split at h
  case h_2 => cases h
  rename_i S1 zs hput
  split at h
  case h_2 => cases h
  rename_i S2 hnil
  cases hb : ((Nat.beq S2.nt s.nt && Nat.beq S2.np s.np) && (pinsOk ρ S2.np && keysOk D s ρ)) <;> simp only [hb, cond_true, cond_false] at h
  · cases h
  simp only [Bool.and_eq_true] at hb
  obtain ⟨⟨hnt, hnp⟩, hpk, hk⟩ := hb
  have hnt := Nat.eq_of_beq_eq_true hnt
  have hnp := Nat.eq_of_beq_eq_true hnp
  have hpin := pinsOk_spec hpk
  split at h
  case h_2 => cases h
  rename_i x1 h1
  split at h
  case h_2 => cases h
  rename_i x2 h2
  simp only [Option.some.injEq] at h
  subst h
  obtain ⟨σ, ν0, hRR0, hA0⟩ := putAll_sound hput hx.append.1 hR
  have hx := hx.append.2
  obtain ⟨ν, hRR, hA, _, hnl⟩ := addNil_sound hnil hRR0 hA0
  have hkey : ∀ b c, assoc ρ b = some c → (s.st.box b).al ∧ ∀ b' c', assoc ρ b' = some c' → c = c' → b = b' := by
    intro b c hbc
    have hm := List.all_eq_true.1 hk _ (assoc_mem hbc)
    simp only [Bool.and_eq_true] at hm
    obtain ⟨hm1, hm2⟩ := hm
    refine ⟨?_, fun b' c' hbc' e => ?_⟩
    · show (orUn (assoc s.boxes b)).al
      revert hm1
      cases orUn (assoc s.boxes b) <;> intro hm1 <;> first | trivial | cases hm1
    · have := List.all_eq_true.1 hm2 _ (assoc_mem hbc')
      simp only [e, Nat.beq_refl, cond_true] at this
      exact Nat.eq_of_beq_eq_true this
  have hren : Ren ρ (S2.env D M w0 σ ν) (s.st.env D M w0 ⟨fun b => σ (keyOf ρ b), σ.zw, σ.zm, fun b => σ.φ (keyOf ρ b)⟩ (fun b => ν (keyOf ρ b))) := by
    refine ⟨fun b c hbc => (hkey b c hbc).1, fun b c hbc => ?_, fun b c hbc => ?_, fun b c hbc => ?_, fun b hbc => ?_, rfl, rfl, rfl, rfl⟩
    · show σ (keyOf ρ b) = σ c
      rw [keyOf, hbc]; rfl
    · show ν (keyOf ρ b) = ν c
      rw [keyOf, hbc]; rfl
    · show σ.φ (keyOf ρ b) = σ.φ c
      rw [keyOf, hbc]; rfl
    · show ν (keyOf ρ b) = _
      rw [keyOf, hbc]
      have hal := (hkey b _ hbc).1
      have hal' : (orUn (assoc s.boxes b)).al := hal
      cases hq : assoc s.boxes b with
      | none => rw [hq] at hal'; exact hal'.elim
      | some t => exact hnl (b, t) (assoc_mem hq) hbc
  have hbox : ∀ b, s.st.box b = .un ∨ ∃ c ys, assoc ρ b = some c ∧ fitB D ρ (s.st.box b) (S2.box c) = some ys ∧ AllQ ys := by
    intro b
    show orUn (assoc s.boxes b) = .un ∨ ∃ c ys, assoc ρ b = some c ∧ fitB D ρ (orUn (assoc s.boxes b)) (S2.box c) = some ys ∧ AllQ ys
    cases hq : assoc s.boxes b with
    | none => exact .inl rfl
    | some t => exact .inr (fitBoxes_mem h2 hx.append.2 _ (assoc_mem hq))
  have hblk : ∀ b g, Fp D (s.st.env D M w0 ⟨fun b => σ (keyOf ρ b), σ.zw, σ.zm, fun b => σ.φ (keyOf ρ b)⟩ (fun b => ν (keyOf ρ b))) b (s.st.box b) g → ∃ c, assoc ρ b = some c ∧ Fp D (S2.env D M w0 σ ν) c (S2.box c) g := by
    intro b g hg
    rcases hbox b with hun | ⟨c, ys, hc, hf, hys⟩
    · rw [hun] at hg; cases hg
    · exact ⟨c, hc, (fitB_sound hren hc hf hys (hRR.boxes c)).2.2 g hg⟩
  refine ⟨⟨fun b => σ (keyOf ρ b), σ.zw, σ.zm, fun b => σ.φ (keyOf ρ b)⟩, fun b => ν (keyOf ρ b), ⟨fun b => ?_, fun b b' g hne hg hg' => ?_, fun b g hg => ?_, hRR.kept, hRR.zk, fun b g hg => ?_, fun b hb => ?_, hRR.glob, hRR.z0, hRR.zn⟩, ⟨by rw [hA.size, hnt]; rfl, hA.defers, fun t av hav => ?_⟩⟩
  · rcases hbox b with hun | ⟨c, ys, hc, hf, hys⟩
    · rw [hun]; trivial
    · exact (fitB_sound hren hc hf hys (hRR.boxes c)).2.1
  · obtain ⟨c, hc, hg1⟩ := hblk b g hg
    obtain ⟨c', hc', hg2⟩ := hblk b' g hg'
    exact hRR.disj c c' g (fun e => hne ((hkey b c hc).2 b' c' hc' e)) hg1 hg2
  · obtain ⟨c, hc, hg1⟩ := hblk b g hg
    exact hRR.lo c g hg1
  · obtain ⟨c, hc, hg1⟩ := hblk b g hg
    exact hRR.zd c g hg1
  · have hb' : b < S2.np := by rw [hnp]; exact hb
    have hbb := hpin b hb'
    obtain ⟨p1, p2, _⟩ := hRR.pins b hb'
    have hkb : keyOf ρ b = b := by rw [keyOf, hbb]; rfl
    refine ⟨?_, ?_, (hkey b b hbb).1⟩
    · show σ (keyOf ρ b) = _
      rw [hkb]; exact p1
    · show ν (keyOf ρ b) = _
      rw [hkb]; exact p2
  · obtain ⟨b, ys, hb, hf, hys⟩ := fitSlots_mem h1 hx.append.1 _ (assoc_mem hav)
    exact fitA_sound hren hf hys (hA.slots t b hb)
theorem loop_sinks {x : Code} {J : Nat → Act → World → Prop} {Q : Exit → Act → World → Prop} {a : Act} {w : World} {g : Nat} (h0 : J g a w)
    (hb : ∀ g a w, J g a w → x.wp P (fun e a' w' => match e with | .normal => ∃ g', g' < g ∧ J g' a' w' | .exit id => Q (.exit id) a' w' | .ret => Q .ret a' w' | _ => False) a w) : (Code.loop x).wp P Q a w := by
  have hleast : ∀ a w, (∃ g, J g a w) → ∃ g, J g a w ∧ ∀ g', J g' a w → g ≤ g' := by
    intro a w ⟨g, hg⟩
    induction g using Nat.strongRecOn with
    | _ g ihg =>
      by_cases hex : ∃ g', g' < g ∧ J g' a w
      · obtain ⟨g', h1, h2⟩ := hex
        exact ihg g' h1 h2
      · refine ⟨g, hg, fun g' h' => ?_⟩
        rcases Nat.lt_or_ge g' g with h1 | h1
        · exact (hex ⟨g', h1, h'⟩).elim
        · exact h1
  let μ : Act → World → Nat := fun a w => open Classical in if h : ∃ g, J g a w then Classical.choose (hleast a w h) else 0
  have hμ : ∀ a w, (∃ g, J g a w) → J (μ a w) a w ∧ ∀ g', J g' a w → μ a w ≤ g' := by
    intro a w h
    have e : μ a w = Classical.choose (hleast a w h) := dif_pos h
    rw [e]
    exact Classical.choose_spec (hleast a w h)
  refine wp_loop (fun a w => ∃ g, J g a w) μ ⟨g, h0⟩ (fun a w hI => ?_)
  have h1 := hb _ a w (hμ a w hI).1
  refine wp_mono h1 ?_
  intro e a' w' he
  cases e <;> simp only at he
  case normal =>
    obtain ⟨g', hlt, hJ⟩ := he
    exact ⟨⟨g', hJ⟩, by have := (hμ a' w' ⟨g', hJ⟩).2 g' hJ; omega⟩
  case exit => exact he
  case ret => exact he
def Ex.same : Ex → Ex → Bool
  | .normal, .normal => true
  | .exit a, .exit b => Nat.beq a b
  | .ret, .ret => true
  | _, _ => false
theorem Ex.same_eq {a b : Ex} (h : Ex.same a b = true) : a = b := by
  cases a <;> cases b <;> first | rfl | (cases h; done) | (have := Nat.eq_of_beq_eq_true h; subst this; rfl)
variable (P D) in
def stepPs (Γ : Gam D) (fuel : Nat) (c : Code) (nid : Nat) (S : St D.τ) (ds : List (Dec D.τ)) (e : Ex) (s : Sn D.τ) : Option (List Prop) :=
  match exec P D Γ fuel c nid S ds with
  | some o => bif Ex.same o.e e then match fitSt D o.S s with
    | some qs => some (o.ps ++ qs)
    | none => none
    else none
  | none => none
variable (D) in
def loopL (s0 : Sn D.τ) (e : Ex) (s : Sn D.τ) (S : St D.τ) : Option (Ex × St D.τ × List Prop) :=
  match fitSt D S s0 with
  | some qs => some (e, s.st, qs)
  | none => none
theorem stepPs_sound {Γ : Gam D} (hΓ : GamOK P D Γ) (hm : P.follows .mixedOrders = true) {fuel : Nat} {c : Code} {nid : Nat} {S : St D.τ} {ds : List (Dec D.τ)} {e : Ex} {s : Sn D.τ} {ps : List Prop}
    (h : stepPs P D Γ fuel c nid S ds e s = some ps) (hps : AllQ ps) {M : Mem} {w0 : World} {a : Act} {w : World} {Q : Exit → Act → World → Prop} (hR : R D M w0 S a w)
    (hQ : ∀ a' w', R D M w0 s.st a' w' → Q e.out a' w') : c.wp P Q a w := by
  unfold stepPs at h
  split at h
  · rename_i o ho
    cases hb : Ex.same o.e e <;> simp only [hb, cond_true, cond_false] at h
    · cases h
    · have := Ex.same_eq hb
      subst this
      split at h
      · rename_i qs hq
        simp only [Option.some.injEq] at h
        subst h
        exact exec_sound hΓ hm fuel c nid S ds o ho hps.append.1 M w0 a w Q hR fun a' w' hR' => hQ a' w' (fitSt_sound hq hps.append.2 hR')
      · cases h
  · cases h
theorem sum_loop {Γ : Gam D} (hΓ : GamOK P D Γ) (hm : P.follows .mixedOrders = true) {c : Code} (I : Nat → Sn D.τ) (N : Nat) {e : Ex} {s : Sn D.τ} (he : Ex.same e .normal = false)
    (hs : ∀ k, k < N → ∃ fuel nid ds ps, stepPs P D Γ fuel c nid (I k).st ds .normal (I (k + 1)) = some ps ∧ AllQ ps)
    (hx : ∃ fuel nid ds ps, stepPs P D Γ fuel c nid (I N).st ds e s = some ps ∧ AllQ ps) : SumOK P D c (loopL D (I 0) e s) := by
  intro S e' S' ps hL hps M w0 a w Q hR hQ
  unfold loopL at hL
  split at hL
  · rename_i qs hq
    simp only [Option.some.injEq, Prod.mk.injEq] at hL
    obtain ⟨rfl, rfl, rfl⟩ := hL
    have hR0 := fitSt_sound hq hps hR
    refine loop_sinks (J := fun g a w => g ≤ N ∧ R D M w0 (I (N - g)).st a w) (g := N) ⟨Nat.le_refl _, by rw [Nat.sub_self]; exact hR0⟩ (fun g a w ⟨hg, hRg⟩ => ?_)
    cases g with
    | zero =>
      obtain ⟨fuel, nid, ds, ps, h1, h2⟩ := hx
      refine stepPs_sound hΓ hm h1 h2 hRg (fun a' w' hR' => ?_)
      have := hQ a' w' hR'
      cases e
      · cases he
      · exact this
      · exact this
    | succ g =>
      obtain ⟨fuel, nid, ds, ps, h1, h2⟩ := hs (N - (g + 1)) (by omega)
      refine stepPs_sound hΓ hm h1 h2 hRg (fun a' w' hR' => ?_)
      refine ⟨g, Nat.lt_succ_self _, by omega, ?_⟩
      rw [show N - (g + 1) + 1 = N - g from by omega] at hR'
      exact hR'
  · cases hL
theorem fnOK_of {Γ : Gam D} (hΓ : GamOK P D Γ) (hm : P.follows .mixedOrders = true) {f : FuncId} {fn : Func} {F : FnD D} (hf : P.funcs[f]? = some fn)
    (hc : ∀ args w, (callFunc f args).run P w = .ok (.enter f args) w)
    (h : ∀ xs r ps, F xs = some (r, ps) → AllQ ps → ∃ xs' fuel ds r' qs, (∀ w vs, A0sRel D (cenv w) xs vs → A0sRel D (cenv w) xs' vs) ∧ runF P D Γ fuel fn xs' ds = some (r', qs) ∧ AllQ qs ∧
      ∀ E v, AVRel D E r' v → AVRel D E r v) : FnOK P D f F := by
  intro xs r ps hF hps w vs hG hx
  obtain ⟨xs', fuel, ds, r', qs, h1, h2, h3, h4⟩ := h xs r ps hF hps
  refine ⟨_, hc _ w, ?_⟩
  refine (runF_calls hΓ hm hf h2 h3 hG (h1 w vs hx)).mono ?_
  rintro e w' ⟨v, he, ⟨ν, hd, hr⟩, hb⟩
  exact ⟨v, he, ⟨ν, hd, h4 _ _ hr⟩, hb⟩
def AllP : Option (List Prop) → Prop
  | some ps => allC ps
  | none => False
where allC : List Prop → Prop
  | [] => True
  | [p] => p
  | p :: q :: ps => p ∧ allC (q :: ps)
theorem AllP.all : ∀ {ps : List Prop}, AllP.allC ps → AllQ ps
  | [], _ => fun p hp => by cases hp
  | [p], h => fun q hq => by rcases List.mem_cons.1 hq with rfl | hq; exact h; cases hq
  | p :: q :: ps, h => fun r hr => by
    rcases List.mem_cons.1 hr with rfl | hr
    · exact h.1
    · exact AllP.all h.2 r hr
theorem AllP.step {o : Option (List Prop)} (h : AllP o) : ∃ ps, o = some ps ∧ AllQ ps := by
  cases o with
  | none => exact h.elim
  | some ps => exact ⟨ps, rfl, AllP.all h⟩
end
end Go.Abs
namespace Go.Abs
open Go.RowKit
section
variable (P : Program) (D : Dom)
def enumA {τ : Type} : Nat → List (A0 τ) → List (Nat × AV τ)
  | _, [] => []
  | i, x :: xs => (i, .v x) :: enumA (i + 1) xs
def enumB {τ : Type} : Nat → List (BoxSt τ) → List (Nat × BoxSt τ)
  | _, [] => []
  | i, x :: xs => (i, x) :: enumB (i + 1) xs
def St.startO (n : Nat) (xs : List (A0 D.τ)) (bs : List (BoxSt D.τ)) : St D.τ := ⟨argSlots D 0 xs, (bst bs.length bs).box, n, bs.length⟩
def snO {τ : Type} (n : Nat) (p : List (BoxSt τ) × List (A0 τ)) : Sn τ := ⟨enumA 0 p.2, enumB 0 p.1, n, p.1.length⟩
def retA {τ : Type} : List (A0 τ) → AV τ
  | [a] => .v a
  | as => .tup as
def runO (Γ : Gam D) (fuel : Nat) (fn : Func) (p : List (BoxSt D.τ) × List (A0 D.τ)) (ds : List (Dec D.τ)) (r : AV D.τ) (bs' : List (BoxSt D.τ)) : Option (List Prop) :=
  match fn.body with
  | some c => match exec P D Γ fuel c p.1.length (snO fn.ntmps p).st ds with
    | some ⟨.exit _, _, _, _, _⟩ => none
    | some ⟨_, S, ps, _, _⟩ => match resList P D S fn.results.toList with
      | some (as, cs) => match fitSt D ⟨fun t => bif Nat.beq t 0 then some (retA as) else none, S.box, 1, S.np⟩ ⟨[(0, r)], enumB 0 bs', 1, p.1.length⟩ with
        | some qs => some (ps ++ (cs ++ qs))
        | none => none
      | none => none
    | none => none
  | none => none
def mkF {θ : Type} (n : Nat) (rd : List (BoxSt D.τ) → List (A0 D.τ) → Option θ) (pre : θ → List (BoxSt D.τ) × List (A0 D.τ)) (post : θ → Option (AV D.τ × List (BoxSt D.τ) × List Prop))
    (bs : List (BoxSt D.τ)) (xs : List (A0 D.τ)) : Option (AV D.τ × List (BoxSt D.τ) × List Prop) :=
  bif Nat.ble xs.length n then match rd bs xs with
  | some t => match fitSt D (St.startO D n xs bs) (snO n (pre t)) with
    | some qs => match post t with
      | some (r, bs', ps) => some (r, bs', qs ++ ps)
      | none => none
    | none => none
  | none => none
  else none
end
section
variable {P : Program} {D : Dom}
theorem RR.same {M : Mem} {w0 : World} {σ : Loc} {ν : Nat → Value} {S S' : St D.τ} {w : World} (h : RR D M w0 σ ν S w) (hb : S'.box = S.box) (hn : S'.np = S.np) : RR D M w0 σ ν S' w := by
  obtain ⟨a, b, c, d⟩ := S
  obtain ⟨a', b', c', d'⟩ := S'
  simp only at hb hn
  subst hb hn
  exact ⟨h.boxes, h.disj, h.lo, h.kept, h.zk, h.zd, h.pins, h.glob, h.z0, h.zn⟩
theorem env_same {M : Mem} {w0 : World} {σ : Loc} {ν : Nat → Value} {S S' : St D.τ} (hb : S'.box = S.box) : S'.env D M w0 σ ν = S.env D M w0 σ ν := by
  unfold St.env
  rw [hb]
theorem a0s_len {E : Env} : ∀ {xs : List (A0 D.τ)} {vs : List Value}, A0sRel D E xs vs → vs.length = xs.length
  | [], _, h => by cases h; rfl
  | _ :: _, _, ⟨v, us, e, _, h⟩ => by subst e; simp [a0s_len h]
theorem assoc_enumB {τ : Type} : ∀ (bs : List (BoxSt τ)) (k i : Nat), orUn (assoc (enumB k bs) (k + i)) = (bs[i]?).getD .un
  | [], k, i => rfl
  | b :: bs, k, i => by
    show orUn (bif Nat.beq (k + i) k then some b else assoc (enumB (k + 1) bs) (k + i)) = _
    cases i with
    | zero => rw [Nat.add_zero, Nat.beq_refl]; rfl
    | succ i =>
      rw [beq_ne (by omega), show k + (i + 1) = (k + 1) + i from by omega]
      simp only [cond_false]
      rw [assoc_enumB bs (k + 1) i]
      simp
theorem retA_rel {E : Env} : ∀ {as : List (A0 D.τ)} {vs : List Value}, A0sRel D E as vs → AVRel D E (retA as) (retOf vs)
  | [], vs, h => by cases h; exact ⟨[], rfl, rfl⟩
  | [a], vs, h => by
    obtain ⟨v, us, rfl, h1, h2⟩ := h
    cases h2
    exact h1
  | a :: b :: as, vs, h => by
    have h' := h
    obtain ⟨v, us, rfl, h1, v2, us2, rfl, h3⟩ := h
    exact ⟨_, rfl, h'⟩
theorem opOK_mkG (hm : P.follows .mixedOrders = true) {f : FuncId} {fn : Func} {θ : Type} {rd : List (BoxSt D.τ) → List (A0 D.τ) → Option θ} {pre : θ → List (BoxSt D.τ) × List (A0 D.τ)}
    {post : θ → Option (AV D.τ × List (BoxSt D.τ) × List Prop)} (hf : P.funcs[f]? = some fn) (hc : ∀ args w, (callFunc f args).run P w = .ok (.enter f args) w)
    (h : ∀ t r bs' ps, post t = some (r, bs', ps) → AllQ ps → ∃ Γ fuel ds, GamOK P D Γ ∧ ∃ qs, runO P D Γ fuel fn (pre t) ds r bs' = some qs ∧ AllQ qs) :
    OpOK P D f (mkF D fn.ntmps rd pre post) := by
  intro bs xs r bs' ps hF hps w σ ν vs hst hxs
  unfold mkF at hF
  cases hxl : Nat.ble xs.length fn.ntmps <;> simp only [hxl, cond_true, cond_false] at hF
  · cases hF
  have hxl := Nat.le_of_ble_eq_true hxl
  split at hF
  · rename_i t hrd
    split at hF
    · rename_i q0 hq0
      split at hF
      · rename_i r1 bs1 p1 hpost
        simp only [Option.some.injEq, Prod.mk.injEq] at hF
        obtain ⟨rfl, rfl, rfl⟩ := hF
        obtain ⟨Γ, fuel, ds, hΓ, qs, hrun, hqs⟩ := h t r1 bs1 p1 hpost (fun p hp => hps p (List.mem_append_right _ hp))
        refine ⟨_, _, hc _ w, ?_⟩
        unfold runO at hrun
        split at hrun
        · rename_i c hbody
          have hlen : vs.length = xs.length := by
            exact a0s_len hxs
          have hn : vs.length ≤ fn.ntmps := by rw [hlen]; exact hxl
          refine calls_of_wp hf hbody ?_
          have hR0 : R D (opMem D w σ ν bs) w (St.startO D fn.ntmps xs bs) ⟨vs.toArray ++ Array.replicate (fn.ntmps - vs.toArray.size) undef, []⟩ w := by
            refine ⟨σ, ν, hst.same rfl rfl, ⟨by simp [St.startO]; omega, rfl, fun s av hs => ?_⟩⟩
            obtain ⟨a, h1, h2, rfl⟩ := argSlots_get hs
            obtain ⟨v, hv, hr⟩ := hxs.get h2
            rw [Nat.sub_zero] at hv
            have hlt : s < vs.length := (List.getElem?_eq_some_iff.1 hv).1
            have e : (vs.toArray ++ Array.replicate (fn.ntmps - vs.toArray.size) undef).getD s undef = v := by
              simp only [Array.getD_eq_getD_getElem?, Array.getElem?_append, List.size_toArray, hlt, if_true, List.getElem?_toArray, hv, Option.getD_some]
            rw [e]
            exact hr
          have hR1 := fitSt_sound hq0 (fun p hp => hps p (List.mem_append_left _ hp)) hR0
          split at hrun
          · cases hrun
          · rename_i e S qs1 ds1 n1 hne he
            split at hrun
            · rename_i as cs hres
              split at hrun
              · rename_i q2 hq2
                simp only [Option.some.injEq] at hrun
                subst hrun
                refine exec_sound hΓ hm fuel c _ _ _ _ he hqs.append.1 _ w _ _ _ hR1 (fun a' w' hR => ?_)
                obtain ⟨σ2, ν2, hR2, hA2⟩ := hR
                obtain ⟨vs', e1, hvs'⟩ := resList_rel hR2 hA2 hres hqs.append.2.append.1
                have hret : AVRel D (S.env D (opMem D w σ ν bs) w σ2 ν2) (retA as) (retOf vs') := by
                  exact retA_rel hvs'
                have hR3 : R D (opMem D w σ ν bs) w ⟨fun t => bif Nat.beq t 0 then some (retA as) else none, S.box, 1, S.np⟩ ⟨#[retOf vs'], []⟩ w' := by
                  refine ⟨σ2, ν2, hR2.same rfl rfl, ⟨rfl, rfl, fun s av hs => ?_⟩⟩
                  have hs' : (bif Nat.beq s 0 then some (retA as) else none) = some av := hs
                  by_cases h0 : s = 0
                  · subst h0
                    rw [Nat.beq_refl] at hs'
                    simp only [cond_true, Option.some.injEq] at hs'
                    subst hs'
                    exact hret
                  · rw [beq_ne h0] at hs'
                    cases hs'
                obtain ⟨σ', ν', hR4, hA4⟩ := fitSt_sound hq2 hqs.append.2.append.2 hR3
                have hbl : (pre t).1.length = bs.length := by
                  exact (fitSt_np hq0).symm
                have hbox : (bst bs.length bs1).box = (Sn.st ⟨[(0, r1)], enumB 0 bs1, 1, (pre t).1.length⟩).box := by
                  funext i
                  rw [bst_box]
                  show _ = orUn (assoc (enumB 0 bs1) i)
                  have := assoc_enumB bs1 0 i
                  rw [Nat.zero_add] at this
                  exact this.symm
                have hfin : ∃ v, (results fn a'.tmps).run P w' = .ok v w' ∧ ∃ v', Ending.returned v = .returned v' ∧ ∃ σ' ν', RR D (opMem D w σ ν bs) w σ' ν' (bst bs.length bs1) w' ∧ AVRel D ((bst bs.length bs1).env D (opMem D w σ ν bs) w σ' ν') r1 v' := by
                  refine ⟨_, run_results e1, _, rfl, σ', ν', hR4.same hbox (by show bs.length = (pre t).1.length; exact hbl.symm), ?_⟩
                  have := hA4.slots 0 r1 rfl
                  rw [← env_same hbox] at this
                  exact this
                have hgo : a'.defers = [] ∧ ∃ v, (results fn a'.tmps).run P w' = .ok v w' ∧ ∃ v', Ending.returned v = .returned v' ∧ ∃ σ' ν', RR D (opMem D w σ ν bs) w σ' ν' (bst bs.length bs1) w' ∧ AVRel D ((bst bs.length bs1).env D (opMem D w σ ν bs) w σ' ν') r1 v' := ⟨hA2.defers, hfin⟩
                cases e
                · exact hgo
                · exact (hne _ rfl).elim
                · exact hgo
              · cases hrun
            · cases hrun
          · cases hrun
        · cases hrun
      · cases hF
    · cases hF
  · cases hF
theorem opOK_mk {Γ : Gam D} (hΓ : GamOK P D Γ) (hm : P.follows .mixedOrders = true) {f : FuncId} {fn : Func} {θ : Type} {rd : List (BoxSt D.τ) → List (A0 D.τ) → Option θ} {pre : θ → List (BoxSt D.τ) × List (A0 D.τ)}
    {post : θ → Option (AV D.τ × List (BoxSt D.τ) × List Prop)} (hf : P.funcs[f]? = some fn) (hc : ∀ args w, (callFunc f args).run P w = .ok (.enter f args) w)
    (h : ∀ t r bs' ps, post t = some (r, bs', ps) → AllQ ps → ∃ fuel ds qs, runO P D Γ fuel fn (pre t) ds r bs' = some qs ∧ AllQ qs) :
    OpOK P D f (mkF D fn.ntmps rd pre post) :=
  opOK_mkG hm hf hc fun t r bs' ps h1 h2 => by
    obtain ⟨fuel, ds, qs, h3, h4⟩ := h t r bs' ps h1 h2
    exact ⟨Γ, fuel, ds, hΓ, qs, h3, h4⟩
def orF {D : Dom} (F G : List (BoxSt D.τ) → List (A0 D.τ) → Option (AV D.τ × List (BoxSt D.τ) × List Prop)) (bs : List (BoxSt D.τ)) (xs : List (A0 D.τ)) : Option (AV D.τ × List (BoxSt D.τ) × List Prop) :=
  match F bs xs with
  | some r => some r
  | none => G bs xs
theorem opOK_or {P : Program} {D : Dom} {f : FuncId} {F G : List (BoxSt D.τ) → List (A0 D.τ) → Option (AV D.τ × List (BoxSt D.τ) × List Prop)} (hF : OpOK P D f F) (hG : OpOK P D f G) :
    OpOK P D f (orF F G) := by
  intro bs xs r bs' ps h
  unfold orF at h
  split at h
  · rename_i q hq
    cases h
    exact hF bs xs r bs' ps hq
  · exact hG bs xs r bs' ps h
theorem opOK_mkR (hm : P.follows .mixedOrders = true) {f : FuncId} {fn : Func} {θ : Type} {rd : List (BoxSt D.τ) → List (A0 D.τ) → Option θ} {pre : θ → List (BoxSt D.τ) × List (A0 D.τ)}
    {post : θ → Option (AV D.τ × List (BoxSt D.τ) × List Prop)} (hf : P.funcs[f]? = some fn) (hc : ∀ args w, (callFunc f args).run P w = .ok (.enter f args) w) (hrd : ∀ bs xs t, rd bs xs = some t → (pre t).1 = bs)
    (h : ∀ t r ns ps, post t = some (r, ns, ps) → AllQ ps → ∃ Γ fuel ds, GamOK P D Γ ∧ ∃ qs, runO P D Γ fuel fn (pre t) ds r ((pre t).1 ++ ns) = some qs ∧ AllQ qs) :
    OpOK P D f (withNew (mkF D fn.ntmps rd pre post)) := by
  have he : withNew (mkF D fn.ntmps rd pre post) = mkF D fn.ntmps rd pre (fun t => match post t with | some (r, ns, ps) => some (r, (pre t).1 ++ ns, ps) | none => none) := by
    funext bs xs
    unfold withNew mkF
    cases Nat.ble xs.length fn.ntmps <;> simp only [cond_true, cond_false]
    cases hr : rd bs xs with
    | none => rfl
    | some t =>
      have hb := hrd bs xs t hr
      simp only
      cases fitSt D (St.startO D fn.ntmps xs bs) (snO fn.ntmps (pre t)) with
      | none => rfl
      | some qs =>
        simp only
        cases post t with
        | none => rfl
        | some x =>
          obtain ⟨r, ns, ps⟩ := x
          simp only [hb]
  rw [he]
  refine opOK_mkG hm hf hc fun t r bs' ps h1 h2 => ?_
  split at h1
  · rename_i r0 ns ps0 hp
    cases h1
    exact h t _ ns _ hp h2
  · cases h1
end
end Go.Abs
namespace Go.Num
abbrev B : Int := 18446744073709551616
def val : List Int → Int
  | [] => 0
  | a :: l => a + B * val l
def InR (l : List Int) : Prop := ∀ a ∈ l, 0 ≤ a ∧ a < B
theorem InR.cons {a : Int} {l : List Int} (h : InR (a :: l)) : (0 ≤ a ∧ a < B) ∧ InR l := ⟨h a (List.mem_cons_self ..), fun b hb => h b (List.mem_cons_of_mem _ hb)⟩
def be : List Int → Int
  | [] => 0
  | b :: l => b * 256 ^ l.length + be l
def InB (l : List Int) : Prop := ∀ a ∈ l, 0 ≤ a ∧ a < 256
theorem be_append : ∀ (l m : List Int), be (l ++ m) = be l * 256 ^ m.length + be m
  | [], m => by simp [be]
  | b :: l, m => by
    simp only [List.cons_append, be, be_append l m, List.length_append, Int.pow_add]
    generalize (256 : Int) ^ l.length = x
    generalize (256 : Int) ^ m.length = y
    grind
theorem be_range : ∀ {l : List Int}, InB l → 0 ≤ be l ∧ be l < 256 ^ l.length
  | [], _ => by simp [be]
  | b :: l, h => by
    have hb := h b (List.mem_cons_self ..)
    have ih := be_range (l := l) fun a ha => h a (List.mem_cons_of_mem _ ha)
    have h1 : b * 256 ^ l.length ≤ 255 * 256 ^ l.length := Int.mul_le_mul_of_nonneg_right (by omega) (by omega)
    have h2 : 0 ≤ b * 256 ^ l.length := Int.mul_nonneg hb.1 (by omega)
    simp only [be, List.length_cons, Int.pow_succ]
    omega
def beB : Nat → Int → List Int
  | 0, _ => []
  | n + 1, x => x / 256 ^ n % 256 :: beB n x
theorem beB_len : ∀ (n : Nat) (x : Int), (beB n x).length = n
  | 0, _ => rfl
  | n + 1, x => by simp [beB, beB_len n]
theorem beB_inB : ∀ (n : Nat) (x : Int), InB (beB n x)
  | 0, _ => fun a h => by cases h
  | n + 1, x => by
    intro a ha
    rcases List.mem_cons.1 ha with rfl | ha
    · exact ⟨Int.emod_nonneg _ (by decide), Int.emod_lt_of_pos _ (by decide)⟩
    · exact beB_inB n x a ha
theorem be_beB : ∀ (n : Nat) (x : Int), be (beB n x) = x % 256 ^ n
  | 0, x => by simp [beB, be, Int.emod_one]
  | n + 1, x => by
    simp only [beB, be, beB_len, be_beB n x]
    have h1 := Int.emod_add_mul_ediv x (256 ^ n)
    have h2 := Int.emod_add_mul_ediv (x / 256 ^ n) 256
    have hp : (0 : Int) < 256 ^ n := Int.pow_pos (by decide)
    have h3 : 0 ≤ x % 256 ^ n ∧ x % 256 ^ n < 256 ^ n := ⟨Int.emod_nonneg _ (by omega), Int.emod_lt_of_pos _ hp⟩
    have h4 : 0 ≤ x / 256 ^ n % 256 ∧ x / 256 ^ n % 256 < 256 := ⟨Int.emod_nonneg _ (by decide), Int.emod_lt_of_pos _ (by decide)⟩
    have hs : (256 : Int) ^ (n + 1) = 256 ^ n * 256 := Int.pow_succ _ _
    generalize x / 256 ^ n % 256 = q at *
    generalize x / 256 ^ n / 256 = y at *
    generalize x % 256 ^ n = s at *
    have hx : x = (q * 256 ^ n + s) + 256 ^ (n + 1) * y := by
      rw [hs, ← h1, ← h2]
      generalize (256 : Int) ^ n = p
      grind
    have h5 : q * 256 ^ n ≤ 255 * 256 ^ n := Int.mul_le_mul_of_nonneg_right (by omega) (by omega)
    have h6 : 0 ≤ q * 256 ^ n := Int.mul_nonneg h4.1 (by omega)
    rw [hx, Int.add_mul_emod_self_left, Int.emod_eq_of_lt (by omega) (by omega)]
end Go.Num
namespace Go.Abs
open Go.RowKit
section
variable (P : Program)
def eqOK : Nat → TypeId → Option Nat
  | 0, _ => none
  | d + 1, t => match P.underlying t with
    | some (.int _) => bif szOf P t == some 1 then some 1 else none
    | some (.array len e) => match eqOK d e with
      | some n => bif P.cellsOf e == n && szOf P e == some n && szOf P t == some (len * n) then some (len * n) else none
      | none => none
    | some (.struct fs) => bif P.stoodInHeld t then none else match eqFs (eqOK d) 0 fs.toList with
      | some n => bif szOf P t == some n then some n else none
      | none => none
    | _ => none
where eqFs (f : TypeId → Option Nat) : Nat → List Field → Option Nat
  | off, [] => some off
  | off, g :: gs => bif g.name != "_" && Nat.beq g.offset off then (match f g.type with
    | some n => bif szOf P g.type == some n then eqFs f (off + n) gs else none
    | none => none) else none
end
section
variable {P : Program}
def IntsP (xs ys : List Value) : Prop := ∀ (i : Nat) u v, xs[i]? = some u → ys[i]? = some v → ∃ k a b, u = .int k a ∧ v = .int k b
def zall (xs ys : List Value) : Bool := (xs.zip ys).all fun c => intOf c.1 == intOf c.2
def valT (P : Program) (t : TypeId) (xs : List Value) : Value := if aggB P t = true then .agg xs.toArray else xs.headD undef
theorem IntsP.left {xs ys us vs : List Value} (h : IntsP (xs ++ us) (ys ++ vs)) (hl : xs.length = ys.length) : IntsP xs ys := by
  intro i u v hu hv
  have h1 := (List.getElem?_eq_some_iff.1 hu).1
  exact h i u v (by rw [List.getElem?_append_left h1]; exact hu) (by rw [List.getElem?_append_left (by omega)]; exact hv)
theorem IntsP.right {xs ys us vs : List Value} (h : IntsP (xs ++ us) (ys ++ vs)) (hl : xs.length = ys.length) : IntsP us vs := by
  intro i u v hu hv
  exact h (xs.length + i) u v (by rw [List.getElem?_append_right (by omega), Nat.add_sub_cancel_left]; exact hu) (by rw [hl, List.getElem?_append_right (by omega), Nat.add_sub_cancel_left]; exact hv)
theorem zall_append {xs ys us vs : List Value} (hl : xs.length = ys.length) : zall (xs ++ us) (ys ++ vs) = (zall xs ys && zall us vs) := by
  unfold zall
  rw [List.zip_append hl, List.all_append]
def EqIn (P : Program) (d : Nat) (t : TypeId) (n : Nat) : Prop := ∀ w xs ys, xs.length = n → ys.length = n → IntsP xs ys → (Op.equalIn d t (valT P t xs) (valT P t ys)).run P w = .ok (zall xs ys) w
theorem cut3 {α : Type} (xs : List α) (off n : Nat) (h : off + n ≤ xs.length) : ∃ c1 c2 c3, xs = c1 ++ (c2 ++ c3) ∧ c1.length = off ∧ c2.length = n :=
  ⟨xs.take off, (xs.drop off).take n, (xs.drop off).drop n, by rw [List.take_append_drop, List.take_append_drop], by simp; omega, by simp; omega⟩
theorem part_val {t : TypeId} {c1 c2 c3 : List Value} {off n : Nat} {w : World} (hs : szOf P t = some n) (h1 : c1.length = off) (h2 : c2.length = n) (hn : aggB P t = false → n = 1) :
    (part t (c1 ++ (c2 ++ c3)).toArray off).run P w = .ok (valT P t c2) w := by
  have h := run_partB (P := P) (w := w) (c1 := c1) (c2 := c2) (c3 := c3) (cs := (c1 ++ (c2 ++ c3)).toArray) hs rfl h1 h2
  unfold valT
  cases hg : aggB P t
  · have hn1 := hn hg
    rw [hn1] at h2
    obtain ⟨v, rfl⟩ := List.length_eq_one_iff.1 h2
    simpa using h.2 hg v rfl
  · simpa using h.1 hg
theorem eqFields_sound {d : Nat} {xs ys : List Value} {w : World} {f : TypeId → Option Nat} (hf : ∀ t n, f t = some n → EqIn P d t n ∧ (aggB P t = false → n = 1)) (hl : xs.length = ys.length) : ∀ {fs : List Field} {off n : Nat} {c1 c2 d1 d2 : List Value},
    eqOK.eqFs P f off fs = some n → xs = c1 ++ c2 → ys = d1 ++ d2 → c1.length = off → d1.length = off → xs.length = n → IntsP c2 d2 → (Op.eqFields d xs.toArray ys.toArray fs).run P w = .ok (zall c2 d2) w
  | [], off, n, c1, c2, d1, d2, h, hx, hy, h1, h2, hn, hi => by
    simp only [eqOK.eqFs, Option.some.injEq] at h
    subst h
    have e1 : c2 = [] := List.length_eq_zero_iff.1 (by rw [hx, List.length_append] at hn; omega)
    have e2 : d2 = [] := List.length_eq_zero_iff.1 (by rw [hl, hy, List.length_append] at hn; omega)
    subst e1
    subst e2
    simp [Op.eqFields, zall]
  | g :: gs, off, n, c1, c2, d1, d2, h, hx, hy, h1, h2, hn, hi => by
    simp only [eqOK.eqFs] at h
    cases hb : (g.name != "_" && Nat.beq g.offset off) <;> simp only [hb, cond_true, cond_false] at h
    · cases h
    simp only [Bool.and_eq_true, bne_iff_ne, ne_eq] at hb
    obtain ⟨hname, hoff⟩ := hb
    have hoff := Nat.eq_of_beq_eq_true hoff
    split at h
    · rename_i m hm
      cases hs : (szOf P g.type == some m) <;> simp only [hs, cond_true, cond_false] at h
      · cases h
      have hs := eq_of_beq hs
      obtain ⟨hE, h1m⟩ := hf _ _ hm
      have hle : ∀ {fs : List Field} {off n : Nat}, eqOK.eqFs P f off fs = some n → off ≤ n := by
        intro fs
        induction fs with
        | nil => intro off n h; simp only [eqOK.eqFs, Option.some.injEq] at h; omega
        | cons a fs ih =>
          intro off n h
          simp only [eqOK.eqFs] at h
          cases hb : (a.name != "_" && Nat.beq a.offset off) <;> simp only [hb, cond_true, cond_false] at h
          · cases h
          split at h
          · rename_i m' _
            cases hs' : (szOf P a.type == some m') <;> simp only [hs', cond_true, cond_false] at h
            · cases h
            · have := ih h; omega
          · cases h
      have hmn := hle h
      have l2 : c2.length = n - off := by rw [hx, List.length_append] at hn; omega
      have l3 : d2.length = n - off := by rw [hl, hy, List.length_append] at hn; omega
      obtain ⟨a0, a1, a2, ea, ha0, ha1⟩ := cut3 c2 0 m (by omega)
      obtain ⟨b0, b1, b2, eb, hb0, hb1⟩ := cut3 d2 0 m (by omega)
      have ea0 := List.length_eq_zero_iff.1 ha0
      have eb0 := List.length_eq_zero_iff.1 hb0
      subst ea0
      subst eb0
      rw [List.nil_append] at ea eb
      subst ea
      subst eb
      have p1 := part_val (P := P) (w := w) (c1 := c1) (c2 := a1) (c3 := a2) hs h1 ha1 h1m
      have p2 := part_val (P := P) (w := w) (c1 := d1) (c2 := b1) (c3 := b2) hs h2 hb1 h1m
      rw [← hx] at p1
      rw [← hy] at p2
      have hll : a1.length = b1.length := by omega
      have p3 := hE w a1 b1 ha1 hb1 (hi.left hll)
      simp only [Op.eqFields, hname, ne_eq, not_false_eq_true, if_true, hoff, Sem.run_bind, p1, p2, p3, Result.andThen_ok]
      rw [zall_append hll]
      cases zall a1 b1
      · simp
      · have := eqFields_sound (w := w) hf hl (c1 := c1 ++ a1) (c2 := a2) (d1 := d1 ++ b1) (d2 := b2) h (by rw [hx, List.append_assoc]) (by rw [hy, List.append_assoc]) (by rw [List.length_append]; omega) (by rw [List.length_append]; omega) hn (hi.right hll)
        simpa using this
    · cases h
theorem eqItems_sound {d n : Nat} {e : TypeId} {xs ys : List Value} {w : World} (hE : EqIn P d e n) (h1n : aggB P e = false → n = 1) (hs : szOf P e = some n) (hl : xs.length = ys.length) : ∀ {m j : Nat} {c1 c2 d1 d2 : List Value},
    xs = c1 ++ c2 → ys = d1 ++ d2 → c1.length = j * n → d1.length = j * n → xs.length = (j + m) * n → IntsP c2 d2 → (Op.eqItems d e n xs.toArray ys.toArray (List.range' j m)).run P w = .ok (zall c2 d2) w
  | 0, j, c1, c2, d1, d2, hx, hy, h1, h2, hn, hi => by
    rw [Nat.add_zero] at hn
    have e1 : c2 = [] := List.length_eq_zero_iff.1 (by rw [hx, List.length_append] at hn; omega)
    have e2 : d2 = [] := List.length_eq_zero_iff.1 (by rw [hl, hy, List.length_append] at hn; omega)
    subst e1
    subst e2
    simp [Op.eqItems, zall]
  | m + 1, j, c1, c2, d1, d2, hx, hy, h1, h2, hn, hi => by
    have hn' : xs.length = j * n + (n + m * n) := by rw [hn, Nat.add_mul, Nat.add_mul, Nat.one_mul]; omega
    have l2 : c2.length = n + m * n := by rw [hx, List.length_append] at hn'; omega
    have l3 : d2.length = n + m * n := by rw [hl, hy, List.length_append] at hn'; omega
    obtain ⟨a0, a1, a2, ea, ha0, ha1⟩ := cut3 c2 0 n (by omega)
    obtain ⟨b0, b1, b2, eb, hb0, hb1⟩ := cut3 d2 0 n (by omega)
    have ea0 := List.length_eq_zero_iff.1 ha0
    have eb0 := List.length_eq_zero_iff.1 hb0
    subst ea0
    subst eb0
    rw [List.nil_append] at ea eb
    subst ea
    subst eb
    have p1 := part_val (P := P) (w := w) (c1 := c1) (c2 := a1) (c3 := a2) hs h1 ha1 h1n
    have p2 := part_val (P := P) (w := w) (c1 := d1) (c2 := b1) (c3 := b2) hs h2 hb1 h1n
    rw [← hx] at p1
    rw [← hy] at p2
    have hll : a1.length = b1.length := by omega
    have p3 := hE w a1 b1 ha1 hb1 (hi.left hll)
    simp only [List.range'_succ, Op.eqItems, Sem.run_bind, p1, p2, p3, Result.andThen_ok]
    rw [zall_append hll]
    cases zall a1 b1
    · simp
    · have := eqItems_sound (w := w) hE h1n hs hl (m := m) (j := j + 1) (c1 := c1 ++ a1) (c2 := a2) (d1 := d1 ++ b1) (d2 := b2) (by rw [hx, List.append_assoc]) (by rw [hy, List.append_assoc]) (by rw [List.length_append, Nat.add_mul, Nat.one_mul]; omega) (by rw [List.length_append, Nat.add_mul, Nat.one_mul]; omega) (by rw [hn]; congr 1; omega) (hi.right hll)
      simpa using this
theorem eqOK_agg {d n : Nat} {t : TypeId} (h : eqOK P d t = some n) (hg : aggB P t = false) : n = 1 := by
  cases d with
  | zero => cases h
  | succ d =>
    simp only [eqOK] at h
    unfold aggB at hg
    split at h
    · cases hs : (szOf P t == some 1) <;> simp only [hs, cond_true, cond_false, Option.some.injEq] at h
      · cases h
      · exact h.symm
    · rename_i hu; rw [hu] at hg; cases hg
    · rename_i hu; rw [hu] at hg; cases hg
    · cases h
theorem eqOK_sound (e : Nat) : ∀ {d : Nat} {t : TypeId} {n : Nat}, eqOK P d t = some n → EqIn P (d + e) t n
  | 0, t, n, h => by cases h
  | d + 1, t, n, h => by
    intro w xs ys hx hy hi
    have hd : d + 1 + e = (d + e) + 1 := by omega
    rw [hd]
    have h0 := h
    simp only [eqOK] at h
    split at h
    · rename_i k hu
      cases hs : (szOf P t == some 1) <;> simp only [hs, cond_true, cond_false, Option.some.injEq] at h
      · cases h
      subst h
      obtain ⟨u, rfl⟩ := List.length_eq_one_iff.1 hx
      obtain ⟨v, rfl⟩ := List.length_eq_one_iff.1 hy
      obtain ⟨k', a, b, rfl, rfl⟩ := hi 0 u v rfl rfl
      have hg : aggB P t = false := by unfold aggB; rw [hu]
      simp only [valT, hg, Bool.false_eq_true, if_false, List.headD_cons]
      rw [run_equalIn_int w (d + e) t k' k a b hu]
      simp [zall, intOf]
    · rename_i len el hu
      split at h
      · rename_i m hm
        cases hs : (P.cellsOf el == m && szOf P el == some m && szOf P t == some (len * m)) <;> simp only [hs, cond_true, cond_false, Option.some.injEq] at h
        · cases h
        subst h
        simp only [Bool.and_eq_true, beq_iff_eq] at hs
        obtain ⟨⟨hc, hse⟩, _⟩ := hs
        obtain ⟨i, _, hinfo, _, _⟩ := szOf_spec hse
        have hg : aggB P t = true := by unfold aggB; rw [hu]
        simp only [valT, hg, if_true]
        rw [run_equalIn_array (w := w) (d + e) xs.toArray ys.toArray hu hinfo, hc, List.range_eq_range']
        exact eqItems_sound (eqOK_sound e hm) (eqOK_agg hm) hse (by omega) (c1 := []) (d1 := []) rfl rfl (by simp) (by simp) (by rw [hx, Nat.zero_add]) hi
      · cases h
    · rename_i fs hu
      cases hst : P.stoodInHeld t <;> simp only [hst, cond_true, cond_false] at h
      · split at h
        · rename_i m hm
          cases hs : (szOf P t == some m) <;> simp only [hs, cond_true, cond_false, Option.some.injEq] at h
          · cases h
          subst h
          have hg : aggB P t = true := by unfold aggB; rw [hu]
          have hfo : P.fieldsOf t = fs := by simp [Program.fieldsOf, hu]
          simp only [valT, hg, if_true]
          rw [run_equalIn_struct w (d + e) t xs.toArray ys.toArray (by rw [hfo]; exact hu) hst, hfo]
          exact eqFields_sound (fun t n h => ⟨eqOK_sound e h, eqOK_agg h⟩) (by omega) hm (c1 := []) (d1 := []) rfl rfl rfl rfl hx hi
        · cases h
      · cases h
    · cases h
theorem eqT_of {t : TypeId} {n : Nat} (h : eqOK P 20 t = some n) (hs : szOf P t = some n) (hg : aggB P t = true) (he : P.eqGuardType P.depth t = false) : EqT P t := by
  intro w xs ys hl hn hi
  rw [hs, Option.getD_some] at hn
  refine ⟨?_, he⟩
  have := eqOK_sound (P := P) 9980 h w xs ys hn (by omega) hi
  simp only [valT, hg, if_true] at this
  exact this
end
end Go.Abs

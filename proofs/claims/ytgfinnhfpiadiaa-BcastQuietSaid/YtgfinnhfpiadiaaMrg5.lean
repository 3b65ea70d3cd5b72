/- Several texts put together: AbsW AbsN. -/
import Derived.Test.YtgfinnhfpiadiaaMrg4
import Derived.MapKept
namespace Go.Abs
open Go.RowKit
theorem find_ks {key : Rec} : ∀ (es : List (Rec × Ob)), match (es.map (·.1)).findIdx? (· == key) with
    | some i => i < es.length ∧ (∃ ob, es[i]? = some (key, ob) ∧ getE es key = some ob) ∧ (∀ o, setE es key o = es.set i (key, o)) ∧ delE es key = es.eraseIdx i
    | none => getE es key = none ∧ (∀ o, setE es key o = es ++ [(key, o)]) ∧ delE es key = es ∧ key ∉ es.map (·.1)
  | [] => by simp [getE, setE, delE]
  | (k, p) :: es => by
    have ih := find_ks (key := key) es
    simp only [List.map_cons, List.findIdx?_cons]
    by_cases hk : k = key
    · subst hk
      simp [getE, setE, delE]
    · have hb : (k == key) = false := by simpa using hk
      simp only [hb, Bool.false_eq_true, if_false]
      cases hf : (es.map (·.1)).findIdx? (· == key) with
      | none =>
        rw [hf] at ih
        obtain ⟨h1, h2, h3, h4⟩ := ih
        refine ⟨by simp [getE, hk, h1], fun o => by simp [setE, hk, h2], by simp [delE, hk, h3], ?_⟩
        intro hm
        rcases List.mem_cons.1 hm with h | h
        · exact hk h.symm
        · exact h4 h
      | some i =>
        rw [hf] at ih
        obtain ⟨h0, ⟨ob, h1, h2⟩, h3, h4⟩ := ih
        exact ⟨by simpa using h0, ⟨ob, by simpa using h1, by simp [getE, hk, h2]⟩, fun o => by simp [setE, hk, h3], by simp [delE, hk, h4]⟩
theorem has_idx {es : List (Rec × Ob)} {key : Rec} (h : hasE es key = true) : ∃ i, (es.map (·.1)).findIdx? (· == key) = some i ∧ i < es.length ∧ es[i]? = some (key, obE es key) ∧
    (∀ o, setE es key o = es.set i (key, o)) ∧ delE es key = es.eraseIdx i := by
  have := find_ks (key := key) es
  split at this
  · rename_i i hi
    obtain ⟨h0, ⟨ob, h1, h2⟩, h3, h4⟩ := this
    exact ⟨i, hi, h0, by rw [h1, obE, h2]; rfl, h3, h4⟩
  · rw [hasE, this.1] at h; cases h
theorem has_not {es : List (Rec × Ob)} {key : Rec} (h : hasE es key = false) : (es.map (·.1)).findIdx? (· == key) = none ∧ (∀ o, setE es key o = es ++ [(key, o)]) ∧ delE es key = es ∧ key ∉ es.map (·.1) := by
  have := find_ks (key := key) es
  split at this
  · obtain ⟨_, ⟨ob, _, h2⟩, _⟩ := this
    rw [hasE, h2] at h; cases h
  · rename_i hi
    exact ⟨hi, this.2⟩
theorem has_set {es : List (Rec × Ob)} {key : Rec} {o : Ob} : hasE (setE es key o) key = true := by
  induction es with
  | nil => simp [hasE, setE, getE]
  | cons x es ih =>
    obtain ⟨k, p⟩ := x
    by_cases hk : k = key
    · simp [hasE, setE, getE, hk]
    · simp only [hasE] at ih
      simp [hasE, setE, getE, hk, ih]
theorem _root_.List.set_getElem?_self' {α : Type} {l : List α} {i : Nat} {x : α} (h : l[i]? = some x) : l.set i x = l := by
  apply List.ext_getElem?
  intro j
  rw [List.getElem?_set]
  split
  · rename_i e
    subst e
    have := (List.getElem?_eq_some_iff.1 h).1
    rw [if_pos this, h]
  · rfl
theorem nodup_idx {es : List (Rec × Ob)} (hn : (es.map (·.1)).Nodup) {i j : Nat} {key : Rec} {o p : Ob} (hi : es[i]? = some (key, o)) (hj : es[j]? = some (key, p)) : i = j := by
  have h1 : (es.map (·.1))[i]? = some key := by rw [List.getElem?_map, hi]; rfl
  have h2 : (es.map (·.1))[j]? = some key := by rw [List.getElem?_map, hj]; rfl
  exact (List.getElem?_inj (List.getElem?_eq_some_iff.1 h1).1 hn).1 (by rw [h1, h2])
section
variable {P : Program} {D : Dom}
theorem bind_run {α β : Type} {m : Rd D.τ α} {f : α → Rd D.τ β} {S : St D.τ} {r : β} {l : List Ref} (h : (m.bind f).run S = some (r, l)) : ∃ a l1 l2, m.run S = some (a, l1) ∧ (f a).run S = some (r, l2) := by
  induction m generalizing r l with
  | ret a => exact ⟨a, [], l, rfl, h⟩
  | fail => cases h
  | slot t k ih =>
    simp only [Rd.bind] at h
    obtain ⟨l', h'⟩ := slot_run h
    obtain ⟨a, l1, l2, h1, h2⟩ := ih _ h'
    exact ⟨a, .slot t :: l1, l2, by simp only [Rd.run, h1], h2⟩
  | box b k ih =>
    simp only [Rd.bind] at h
    obtain ⟨l', h'⟩ := box_run h
    obtain ⟨a, l1, l2, h1, h2⟩ := ih _ h'
    exact ⟨a, .box b :: l1, l2, by simp only [Rd.run, h1], h2⟩
theorem ObjRel.zone {X : Env → World → Nat → BoxSt D.τ → Prop} {fd : FamD D.τ} {σ σ2 : Loc} (h1 : σ2.zw = σ.zw) (h2 : σ2.zm = σ.zm) {w : World} {ob : Ob} {v : Value} {F : Nat → Prop} (h : ObjRel D X fd σ w ob v F) : ObjRel D X fd σ2 w ob v F := by
  obtain ⟨σ', ν', e1, e2, r⟩ := h
  exact ⟨σ', ν', e1.trans h1.symm, e2.trans h2.symm, r⟩
theorem RR.fam {M : Mem} {w0 : World} {σ : Loc} {ν : Nat → Value} {S S' : St D.τ} {w w' : World} (hR : RR D M w0 σ ν S w) {b k : Nat} {es es' : List (Rec × Ob)} {out out' : Option (Rec × List (Part D.τ))} (hbx : S.box b = .fam k es out)
    {old : List Nat} (hbo : b ∉ old) (hS : ∀ c, S'.box c = if c = b then .fam k es' out' else if c ∈ old then .dead else S.box c) (hnp : S'.np = S.np) {F : Nat → Prop}
    (hF : ∀ g, F g → σ.φ b g ∨ ∃ i ∈ old, Fp D (S.env D M w0 σ ν) i (S.box i) g)
    (hbox : BoxRel D (S'.env D M w0 ⟨σ.f, σ.zw, σ.zm, setN σ.φ b F⟩ ν) w' b (.fam k es' out')) (hg : ∃ row, w.grownBy w' row ∧ ∀ g, row = some g → σ.φ b g) :
    RR D M w0 ⟨σ.f, σ.zw, σ.zm, setN σ.φ b F⟩ ν S' w' ∧ (S.env D M w0 σ ν).le (S'.env D M w0 ⟨σ.f, σ.zw, σ.zm, setN σ.φ b F⟩ ν) := by
  obtain ⟨row, hg, hrow⟩ := hg
  have hfb : ∀ g, σ.φ b g → Fp D (S.env D M w0 σ ν) b (S.box b) g := fun g hg => by rw [hbx]; exact hg
  have hFp : ∀ g, Fp D (S'.env D M w0 ⟨σ.f, σ.zw, σ.zm, setN σ.φ b F⟩ ν) b (S'.box b) g → F g := by
    intro g hg
    rw [hS, if_pos rfl] at hg
    have : setN σ.φ b F b g := hg
    rwa [setN_same] at this
  have hle : (S.env D M w0 σ ν).le (S'.env D M w0 ⟨σ.f, σ.zw, σ.zm, setN σ.φ b F⟩ ν) := by
    refine ⟨fun c h => ?_, fun _ _ => rfl, fun _ _ => rfl, rfl, rfl, ⟨rfl, rfl⟩, fun g hg => ⟨hg, rfl⟩⟩
    show (S'.box c).al
    rw [hS]
    by_cases hc : c = b
    · rw [if_pos hc]; trivial
    · rw [if_neg hc]
      by_cases ho : c ∈ old
      · rw [if_pos ho]; trivial
      · rw [if_neg ho]; exact h
  have hlob : ∀ g, F g → w0.heap.size ≤ g ∨ M g := by
    intro g hg
    rcases hF g hg with h | ⟨i, _, h⟩
    · exact hR.lo b g (hfb g h)
    · exact hR.lo i g h
  refine ⟨hR.step hle (· = b) ?_ ?_ ?_ ?_ (hR.kept.grown hg fun g e => hR.lo b g (hfb g (hrow g e))) hnp (hR.zk_grown hg fun g e => hR.zd b g (hfb g (hrow g e))) ?_ (fun c g _ h _ => hR.zd c g h) (fun g h => .inl h) (fun c hc => setN_other _ _ hc), hle⟩
  · rintro c rfl
    rw [hS, if_pos rfl]; exact hbox
  · intro c hc
    rw [hS, if_neg hc]
    by_cases ho : c ∈ old
    · rw [if_pos ho]; exact .inr rfl
    · rw [if_neg ho]
      refine .inl ⟨rfl, fun g hgc => hg.block g (blk_lt hR hgc) (fun e => ?_)⟩
      exact hR.disj c b g hc hgc (hfb g (hrow g e.symm))
  · rintro c c' g rfl hne h1 h2
    have h1' := hFp g h1
    rw [hS, if_neg (Ne.symm hne)] at h2
    by_cases ho : c' ∈ old
    · rw [if_pos ho] at h2; cases h2
    · rw [if_neg ho] at h2
      have h2' : Fp D (S.env D M w0 σ ν) c' (S.box c') g :=
        (fp_same (E := S.env D M w0 σ ν) (F := S'.env D M w0 ⟨σ.f, σ.zw, σ.zm, setN σ.φ c F⟩ ν) rfl rfl (setN_other _ _ (Ne.symm hne))).1 h2
      rcases hF g h1' with h | ⟨i, hi, h⟩
      · exact hR.disj c c' g hne (hfb g h) h2'
      · exact hR.disj i c' g (fun e => ho (e ▸ hi)) h h2'
  · rintro c g rfl h
    exact hlob g (hFp g h)
  · rintro c g rfl h hz
    rcases hF g (hFp g h) with h' | ⟨i, _, h'⟩
    · exact hR.zd c g (hfb g h') hz
    · exact hR.zd i g h' hz
theorem mkAV_val {E : Env} {agg : Bool} {ps : List (Part D.τ)} {x : AV D.τ} {v : Value} (h : mkAV agg ps = some x) (hv : ValRel D E agg ps v) : AVRel D E x v := by
  cases agg with
  | true =>
    obtain ⟨cs, rfl, hp⟩ := hv
    rcases mkAV_rel h hp with ⟨_, h1⟩ | ⟨h1, _⟩
    · exact h1
    · cases h1
  | false =>
    rcases mkAV_rel h hv.2 with ⟨h1, _⟩ | ⟨_, u, e, h1⟩
    · cases h1
    · simp only [List.cons.injEq, and_true] at e
      subst e; exact h1
theorem val_parts {E : Env} {ps : List (Part D.τ)} {x : AV D.τ} {v : Value} (h : partsOf x = some ps) (hx : AVRel D E x v) : ValRel D E (isAggA x) ps v := by
  unfold partsOf at h
  split at h
  · simp only [Option.some.injEq] at h; subst h
    exact ⟨hx.1, _, [], by simp, hx.2, rfl⟩
  · simp only [Option.some.injEq] at h; subst h
    exact hx
  · cases h
theorem rdBs_run {α : Type} {S : St D.τ} : ∀ {bs : List Nat} {k : List (BoxSt D.τ) → Rd D.τ α} {r : α} {l : List Ref}, (rdBs bs k).run S = some (r, l) → ∃ l', (k (bs.map S.box)).run S = some (r, l')
  | [], k, r, l, h => ⟨l, h⟩
  | b :: bs, k, r, l, h => by
    simp only [rdBs] at h
    obtain ⟨l1, h⟩ := box_run h
    obtain ⟨l', h'⟩ := rdBs_run (bs := bs) h
    exact ⟨l', h'⟩
theorem idρ_spec : ∀ {n b c : Nat}, assoc (idρ n) b = some c → b = c ∧ c < n
  | 0, b, c, h => by cases h
  | n + 1, b, c, h => by
    simp only [idρ, assoc] at h
    cases hb : Nat.beq b n <;> simp only [hb, cond_true, cond_false] at h
    · have := idρ_spec h
      exact ⟨this.1, by omega⟩
    · have := Nat.eq_of_beq_eq_true hb
      simp only [Option.some.injEq] at h
      omega
theorem idρ_get : ∀ {n b : Nat}, b < n → assoc (idρ n) b = some b
  | 0, b, h => by omega
  | n + 1, b, h => by
    simp only [idρ, assoc]
    by_cases hb : b = n
    · subst hb; rw [Nat.beq_refl]; rfl
    · rw [beq_ne hb]; exact idρ_get (by omega)
theorem ren_id {σ : Loc} {ν : Nat → Value} {n : Nat} : Ren (idρ n) (ienv σ ν n) (ienv σ ν n) :=
  ⟨fun b c h => by have := idρ_spec h; show b < n; omega, fun b c h => by rw [(idρ_spec h).1], fun b c h => by rw [(idρ_spec h).1], fun b c h => by rw [(idρ_spec h).1], fun b h => by have := (idρ_spec h).1; unfold nilB at this; omega, rfl, rfl, ⟨rfl, rfl⟩⟩
theorem fitBs_get {ρ : List (Nat × Nat)} : ∀ {bs cs : List (BoxSt D.τ)} {xs : List Prop}, fitBs D ρ bs cs = some xs → AllQ xs → bs.length = cs.length ∧ ∀ (i : Nat) s, bs[i]? = some s → ∃ t ys, cs[i]? = some t ∧ fitB D ρ s t = some ys ∧ AllQ ys
  | [], [], _, _, _ => ⟨rfl, fun i s h => by simp at h⟩
  | [], _ :: _, _, h, _ => by cases h
  | _ :: _, [], _, h, _ => by cases h
  | b :: bs, c :: cs, xs, h, hx => by
    simp only [fitBs] at h
    split at h
    · rename_i ys hys
      split at h
      · rename_i zs hzs
        simp only [Option.some.injEq] at h; subst h
        obtain ⟨q1, q2⟩ := fitBs_get hzs hx.append.2
        refine ⟨by simp [q1], fun i s hi => ?_⟩
        cases i with
        | zero => simp only [List.getElem?_cons_zero, Option.some.injEq] at hi; subst hi; exact ⟨c, ys, rfl, hys, hx.append.1⟩
        | succ i => obtain ⟨t, ws, p1, p2⟩ := q2 i s (by simpa using hi); exact ⟨t, ws, by simpa using p1, p2⟩
      · cases h
    · cases h
theorem fitB_low {ρ : List (Nat × Nat)} {s t : BoxSt D.τ} {xs : List Prop} {n : Nat} (h : fitB D ρ s t = some xs) (ht : lowB n t = true) : lowB n s = true := by
  unfold fitB at h
  split at h
  · rfl
  · rfl
  · rfl
  · rename_i k es k' es'
    cases hk : Nat.beq k k' <;> simp only [hk, cond_true, cond_false] at h
    · cases h
    rw [Nat.eq_of_beq_eq_true hk]; exact ht
  · rename_i k es x ps k' es' y qs
    cases hk : Nat.beq k k' <;> simp only [hk, cond_true, cond_false] at h
    · cases h
    rw [Nat.eq_of_beq_eq_true hk]; exact ht
  · cases h
theorem obj_of {M : Mem} {w0 : World} {σ : Loc} {ν : Nat → Value} {S : St D.τ} {w : World} (hR : RR D M w0 σ ν S w) {k : Nat} {fd : FamD D.τ} {ids : List Nat} (hnd : ids.Nodup) (hn : ids.length = fd.n) {bs : List (BoxSt D.τ)} (hbs : rnBs D (idx ids) (ids.map S.box) = some bs)
    (hlow : bs.all (lowB k) = true) {ps qs : List (Part D.τ)} (hqs : rnPs D (idx ids) ps = some qs) {ob : Ob} {xs ys : List Prop} (hfp : fitPs D (idρ fd.n) (fd.root ob) qs = some xs) (hfb : fitBs D (idρ fd.n) (fd.boxes ob) bs = some ys) (hx : AllQ xs) (hy : AllQ ys)
    {v : Value} (hv : ValRel D (S.env D M w0 σ ν) fd.vagg ps v) : ObjRel D (XK D k) fd σ w ob v (fun g => ∃ i ∈ ids, Fp D (S.env D M w0 σ ν) i (S.box i) g) := by
  obtain ⟨hbl, hbg⟩ := rnBs_get hbs
  rw [List.length_map] at hbl
  obtain ⟨hfl, hfg⟩ := fitBs_get hfb hy
  let σ' : Loc := ⟨fun i => σ (ids.getD i 0), σ.zw, σ.zm, fun i => σ.φ (ids.getD i 0)⟩
  let ν' : Nat → Value := fun i => ν (ids.getD i 0)
  have hren : RenF (idx ids) (S.env D M w0 σ ν) (ienv σ' ν' fd.n) := by
    refine ⟨fun b c hb _ => ?_, fun b c hb => ?_, fun b c hb => ?_, fun g hg => ⟨hg, rfl⟩⟩
    · have := (List.getElem?_eq_some_iff.1 (idx_spec hb)).1
      show c < fd.n
      omega
    · have := idx_spec hb
      show σ (ids.getD c 0) = σ b
      simp [this, List.getD_eq_getElem?_getD]
    · have := idx_spec hb
      show ν (ids.getD c 0) = ν b
      simp [this, List.getD_eq_getElem?_getD]
  have hget : ∀ (i : Nat) s, bs[i]? = some s → ∃ b, ids[i]? = some b ∧ rnB D (idx ids) (S.box b) = some s ∧ σ' i = σ b ∧ ν' i = ν b ∧ σ'.φ i = σ.φ b := by
    intro i s hs
    have hlt : i < ids.length := by have := (List.getElem?_eq_some_iff.1 hs).1; omega
    have hidi : ids[i]? = some ids[i] := List.getElem?_eq_getElem hlt
    obtain ⟨t, ht, hrt⟩ := hbg i (S.box ids[i]) (by rw [List.getElem?_map, hidi]; rfl)
    rw [hs] at ht
    simp only [Option.some.injEq] at ht
    subst ht
    refine ⟨ids[i], hidi, hrt, ?_, ?_, ?_⟩
    · show σ (ids.getD i 0) = σ ids[i]; simp [hidi, List.getD_eq_getElem?_getD]
    · show ν (ids.getD i 0) = ν ids[i]; simp [hidi, List.getD_eq_getElem?_getD]
    · show σ.φ (ids.getD i 0) = σ.φ ids[i]; simp [hidi, List.getD_eq_getElem?_getD]
  have hsub : ∀ (i : Nat) s, (fd.boxes ob)[i]? = some s → ∃ b, ids[i]? = some b ∧ s.al ∧ XK D k (ienv σ' ν' fd.n) w i s ∧ ∀ g, Fp D (ienv σ' ν' fd.n) i s g → Fp D (S.env D M w0 σ ν) b (S.box b) g := by
    intro i s hs
    obtain ⟨t, zs, h1, h2, h3⟩ := hfg i s hs
    obtain ⟨b, q1, q2, q3, q4, q5⟩ := hget i t h1
    have hlt : i < fd.n := by have := (List.getElem?_eq_some_iff.1 h1).1; omega
    have hbr : BoxRel D (ienv σ' ν' fd.n) w i t := rnB_rel hren (b := b) q3 q4 q5 q2 (hR.boxes b)
    obtain ⟨p1, p2, p3⟩ := fitB_sound ren_id (idρ_get hlt) h2 h3 hbr
    refine ⟨b, q1, p1, XK_box.2 ⟨fitB_low h2 ?_, p2⟩, fun g hg => ?_⟩
    · exact List.all_eq_true.1 hlow t (List.mem_of_getElem? h1)
    · exact (rnB_blk (E := S.env D M w0 σ ν) (F := ienv σ' ν' fd.n) q3 q4 q5 q2).1 (p3 g hg)
  refine ⟨σ', ν', rfl, rfl, ?_, by rw [hfl, hbl, hn], fun i s hs => ?_, fun i j s t g hij hi hj h1 h2 => ?_⟩
  · have h1 := hv.ren hren hqs
    cases hagg : fd.vagg with
    | true => rw [hagg] at h1; obtain ⟨cs, e, hp⟩ := h1; exact ⟨cs, e, fitPs_sound ren_id hfp hx hp⟩
    | false => rw [hagg] at h1; exact ⟨h1.1, fitPs_sound ren_id hfp hx h1.2⟩
  · obtain ⟨b, q1, q2, q3, q4⟩ := hsub i s hs
    exact ⟨q2, q3, fun g hg => ⟨b, List.mem_of_getElem? q1, q4 g hg⟩⟩
  · obtain ⟨b, q1, _, _, q4⟩ := hsub i s hi
    obtain ⟨c, p1, _, _, p4⟩ := hsub j t hj
    refine hR.disj b c g (fun e => hij ?_) (q4 g h1) (p4 g h2)
    subst e
    exact (List.getElem?_inj (List.getElem?_eq_some_iff.1 q1).1 hnd).1 (by rw [q1, p1])
theorem putBack_sound {M : Mem} {w0 : World} {σ : Loc} {ν : Nat → Value} {S : St D.τ} {w : World} (hR : RR D M w0 σ ν S w) {b k : Nat} {es : List (Rec × Ob)} {key : Rec} {ps : List (Part D.τ)} {fd : FamD D.τ} (hbx : S.box b = .fam k es (some (key, ps))) (hfd : D.fam k = some fd)
    {us : List (Nat × BoxSt D.τ)} {es' : List (Rec × Ob)} {qs : List Prop} {l : List Ref} (h : (putBack D k b fd es key ps).run S = some ((us, es', qs), l)) (hq : AllQ qs) :
    ∃ φ, RR D M w0 ⟨σ.f, σ.zw, σ.zm, φ⟩ ν (S.bx (us ++ [(b, .fam k es' none)])) w ∧ (S.env D M w0 σ ν).le ((S.bx (us ++ [(b, .fam k es' none)])).env D M w0 ⟨σ.f, σ.zw, σ.zm, φ⟩ ν) ∧
      (∀ c, S.box c = .un → (S.bx (us ++ [(b, .fam k es' none)])).box c = .un) := by
  unfold putBack at h
  obtain ⟨⟨ob, ids⟩, l1, l2, h1, h⟩ := bind_run h
  simp only at h
  generalize hc : (nodupB ids && (!(ids.any (Nat.beq b)) && Nat.beq ids.length fd.n)) = cc at h
  cases cc <;> simp only [cond_true, cond_false, run_fail] at h
  simp only [Bool.and_eq_true, Bool.not_eq_true'] at hc
  have hnd := nodupB_spec hc.1
  have hbi := any_beq_false hc.2.1
  have hlen := Nat.eq_of_beq_eq_true hc.2.2
  obtain ⟨l3, h⟩ := rdBs_run h
  split at h
  · rename_i bs q2 hbs hq2
    generalize hlw : bs.all (lowB k) = lw at h
    cases lw <;> simp only [cond_true, cond_false, run_fail] at h
    split at h
    · rename_i xs ys hxs hys
      simp only [run_ret, Prod.mk.injEq] at h
      obtain ⟨⟨rfl, rfl, rfl⟩, _⟩ := h
      have hS : ∀ c, (S.bx (ids.map (fun i => (i, .dead)) ++ [(b, .fam k (setE es key ob) none)])).box c = if c = b then .fam k (setE es key ob) none else if c ∈ ids then .dead else S.box c := fun c => bx_old ids S b _ c
      generalize hS' : S.bx (ids.map (fun i => (i, .dead)) ++ [(b, .fam k (setE es key ob) none)]) = S' at hS
      have hold := hR.boxes b
      rw [hbx] at hold
      obtain ⟨fd', hfd', vs, Fs, q3, q4, q5, q6, q7, q8, q9, q10, q11⟩ := hold
      rw [hfd] at hfd'
      simp only [Option.some.injEq] at hfd'
      subst hfd'
      obtain ⟨i0, hi0, hi0l, hi0e, hset, _⟩ := has_idx (q8 key ps rfl)
      obtain ⟨v0, hv0⟩ : ∃ v, vs[i0]? = some v := ⟨_, List.getElem?_eq_getElem (by omega)⟩
      have hval : ValRel D (S.env D M w0 σ ν) fd.vagg ps v0 := by
        rcases q9 i0 _ _ _ hi0e hv0 with ⟨ps', e1, e2⟩ | ⟨e1, _⟩
        · simp only [Option.some.injEq, Prod.mk.injEq, true_and] at e1
          subst e1; exact e2
        · exact (e1 ps rfl).elim
      have hobj := obj_of hR (k := k) (ob := ob) hnd hlen hbs hlw hq2 hxs hys hq.append.1 hq.append.2 hval
      have hfb : ∀ g, σ.φ b g → Fp D (S.env D M w0 σ ν) b (S.box b) g := fun g hg => by rw [hbx]; exact hg
      have hout : ∀ i g, i ∈ ids → Fp D (S.env D M w0 σ ν) i (S.box i) g → ¬ σ.φ b g := fun i g hi hg hb => hR.disj i b g (fun e => hbi (e ▸ hi)) hg (hfb g hb)
      have hkeys : (setE es key ob).map (·.1) = es.map (·.1) := by
        rw [hset, List.map_set]
        exact List.set_getElem?_self' (by rw [List.getElem?_map, hi0e]; rfl)
      have hbox : BoxRel D (S'.env D M w0 ⟨σ.f, σ.zw, σ.zm, setN σ.φ b (fun g => σ.φ b g ∨ ∃ i ∈ ids, Fp D (S.env D M w0 σ ν) i (S.box i) g)⟩ ν) w b (.fam k (setE es key ob) none) := by
        refine ⟨fd, hfd, vs, setN Fs i0 (fun g => ∃ j ∈ ids, Fp D (S.env D M w0 σ ν) j (S.box j) g), ?_, by rw [hkeys]; exact q4, by rw [hset, List.length_set]; exact q5, fun g hg => ?_, fun g hg => ?_, (fun x ps h => by cases h), fun i key' ob' v hi hv => ?_, fun i g hg => ?_, fun i j g h1 h2 => ?_⟩
        · rw [hkeys]; exact q3
        · have hg' : setN σ.φ b (fun g => σ.φ b g ∨ ∃ i ∈ ids, Fp D (S.env D M w0 σ ν) i (S.box i) g) b g := hg
          rw [setN_same] at hg'
          rcases hg' with h | ⟨i, _, h⟩
          · exact q6 g h
          · exact blk_lt hR h
        · show setN σ.φ b _ b g
          rw [setN_same]
          exact .inl (q7 g hg)
        · refine .inr ⟨(fun ps h => by cases h), ?_⟩
          rw [hset] at hi
          by_cases hii : i = i0
          · subst hii
            rw [List.getElem?_set_self hi0l] at hi
            simp only [Option.some.injEq, Prod.mk.injEq] at hi
            obtain ⟨rfl, rfl⟩ := hi
            rw [hv0] at hv
            simp only [Option.some.injEq] at hv
            subst hv
            rw [setN_same]
            exact hobj.zone rfl rfl
          · rw [List.getElem?_set_ne (fun e => hii e.symm)] at hi
            rw [setN_other _ _ hii]
            rcases q9 i _ _ _ hi hv with ⟨ps', e1, _⟩ | ⟨_, e2⟩
            · simp only [Option.some.injEq, Prod.mk.injEq] at e1
              obtain ⟨rfl, _⟩ := e1
              exact (hii (nodup_idx q4 hi hi0e)).elim
            · exact e2.zone rfl rfl
        · show setN σ.φ b _ b g ∧ ¬ IsCont D fd (S.env D M w0 σ ν) b g
          rw [setN_same]
          by_cases hii : i = i0
          · rw [hii, setN_same] at hg
            obtain ⟨j, hj, hg⟩ := hg
            exact ⟨.inr ⟨j, hj, hg⟩, fun hc => hout j g hj hg (q7 g hc)⟩
          · rw [setN_other _ _ hii] at hg
            exact ⟨.inl (q10 i g hg).1, (q10 i g hg).2⟩
        · by_cases hii : i = i0 <;> by_cases hjj : j = i0
          · rw [hii, hjj]
          · rw [hii, setN_same] at h1
            rw [setN_other _ _ hjj] at h2
            obtain ⟨c, hc, h1⟩ := h1
            exact (hout c g hc h1 (q10 j g h2).1).elim
          · rw [setN_other _ _ hii] at h1
            rw [hjj, setN_same] at h2
            obtain ⟨c, hc, h2⟩ := h2
            exact (hout c g hc h2 (q10 i g h1).1).elim
          · rw [setN_other _ _ hii] at h1
            rw [setN_other _ _ hjj] at h2
            exact q11 i j g h1 h2
      obtain ⟨r1, r2⟩ := RR.fam (S' := S') hR hbx (old := ids) hbi hS (by rw [← hS']; exact bx_np _ S) (F := fun g => σ.φ b g ∨ ∃ i ∈ ids, Fp D (S.env D M w0 σ ν) i (S.box i) g) (fun g h => h)
        (es' := setE es key ob) (out' := none) (w' := w) hbox ⟨none, World.grownBy.refl _ _, fun g h => by cases h⟩
      refine ⟨_, r1, r2, fun c hun => ?_⟩
      rw [hS]
      have h1 : c ≠ b := fun e => by rw [e, hbx] at hun; cases hun
      rw [if_neg h1]
      by_cases h2 : c ∈ ids
      · exfalso
        obtain ⟨i, hi⟩ := List.mem_iff_getElem?.1 h2
        obtain ⟨t, _, ht⟩ := (rnBs_get hbs).2 i (S.box c) (by rw [List.getElem?_map, hi]; rfl)
        have := (rnB_al ht).1
        rw [hun] at this; exact this
      · rw [if_neg h2]; exact hun
    · simp at h
  · simp at h
def MapAt (fd : FamD D.τ) (w : World) (r : Nat) (ks : List Rec) (vs : List Value) : Prop :=
  ∃ ens clock, w.heap[r]? = some (.map ens clock) ∧ ens.toList.map (·.key) = ks.map (keyV fd.kagg fd.ksh) ∧ ens.toList.map (·.val) = vs ∧ Born ens clock ∧ ∀ k ∈ ks, keyOK fd.ksh k = true
theorem cont_map {fd : FamD D.τ} {E : Env} {w : World} {b : Nat} {ks : List Rec} {vs : List Value} (hr : fd.row = false) : ContRel D fd E w b ks vs ↔ MapAt fd w (E.σ b) ks vs := by
  unfold ContRel MapAt
  rw [hr]
theorem shift_spec {nid n i c : Nat} (h : shift nid n i = some c) : i < n ∧ c = nid + i := by
  unfold shift at h
  cases hb : Nat.blt i n <;> simp only [hb, cond_true, cond_false] at h
  · cases h
  · simp only [Option.some.injEq] at h
    rw [Nat.blt_eq] at hb
    exact ⟨hb, h.symm⟩
theorem takeOut_sound {M : Mem} {w0 : World} {σ : Loc} {ν : Nat → Value} {S : St D.τ} {w : World} (hR : RR D M w0 σ ν S w) {b k nid : Nat} {es : List (Rec × Ob)} {key : Rec} {ps : List (Part D.τ)} {bs : List (BoxSt D.τ)} {fd : FamD D.τ}
    (hbx : S.box b = .fam k es none) (hfd : D.fam k = some fd) (hrow : fd.row = false) (hun : ∀ i, i < fd.n → S.box (nid + i) = .un) (hps : rnPs D (shift nid fd.n) (fd.root (obE es key)) = some ps)
    (hbs : rnBs D (shift nid fd.n) (fd.boxes (obE es key)) = some bs) (hhas : hasE es key = true) :
    ∃ σ' ν' vs, MapAt fd w (σ b) (es.map (·.1)) vs ∧ σ'.zw = σ.zw ∧ σ'.zm = σ.zm ∧
      RR D M w0 σ' ν' (S.bx ((b, .fam k es (bif Nat.beq fd.n 0 then none else some (key, ps))) :: zipU (newIds nid fd.n) bs)) w ∧
      (S.env D M w0 σ ν).le ((S.bx ((b, .fam k es (bif Nat.beq fd.n 0 then none else some (key, ps))) :: zipU (newIds nid fd.n) bs)).env D M w0 σ' ν') ∧
      ∀ (i : Nat) v, es[i]? = some (key, obE es key) → vs[i]? = some v → ValRel D ((S.bx ((b, .fam k es (bif Nat.beq fd.n 0 then none else some (key, ps))) :: zipU (newIds nid fd.n) bs)).env D M w0 σ' ν') fd.vagg ps v := by
  have hold := hR.boxes b
  rw [hbx] at hold
  obtain ⟨fd', hfd', vs, Fs, q3, q4, q5, q6, q7, q8, q9, q10, q11⟩ := hold
  rw [hfd] at hfd'
  simp only [Option.some.injEq] at hfd'
  subst hfd'
  obtain ⟨i0, hi0, hi0l, hi0e, _, _⟩ := has_idx hhas
  obtain ⟨v0, hv0⟩ : ∃ v, vs[i0]? = some v := ⟨_, List.getElem?_eq_getElem (by omega)⟩
  have hobj : ObjRel D (XK D k) fd σ w (obE es key) v0 (Fs i0) := by
    rcases q9 i0 _ _ _ hi0e hv0 with ⟨ps', e1, _⟩ | ⟨_, e2⟩
    · cases e1
    · exact e2
  obtain ⟨σ1, ν1, z1, z2, o1, o2, o3, o4⟩ := hobj
  obtain ⟨hul, hug⟩ := rnBs_get hbs
  have hbl : bs.length = fd.n := by rw [hul, o2]
  generalize hout : (bif Nat.beq fd.n 0 then none else some (key, ps) : Option (Rec × List (Part D.τ))) = out
  have hnew : ∀ i c, (newIds nid fd.n)[i]? = some c → i < fd.n ∧ c = nid + i := by
    intro i c h
    rw [newIds_get] at h
    split at h
    · rename_i hi
      simp only [Option.some.injEq] at h
      exact ⟨hi, h.symm⟩
    · cases h
  have hbn : ∀ i, i < fd.n → nid + i ≠ b := fun i hi e => by have := hun i hi; rw [e, hbx] at this; cases this
  have hnn : (newIds nid fd.n).Nodup := by
    refine List.pairwise_iff_getElem.2 fun i j hi hj hij heq => ?_
    have h1 := (hnew i _ (List.getElem?_eq_getElem hi)).2
    have h2 := (hnew j _ (List.getElem?_eq_getElem hj)).2
    omega
  generalize hS' : S.bx ((b, .fam k es out) :: zipU (newIds nid fd.n) bs) = S'
  have hSz : ∀ c, (∀ i, i < fd.n → c = nid + i → S'.box c = (bs[i]?).getD .un) ∧ ((∀ i, i < fd.n → c ≠ nid + i) → S'.box c = if c = b then .fam k es out else S.box c) := by
    intro c
    have := bx_zip (newIds nid fd.n) bs (S.upd (.box b (.fam k es out))) c hnn (by rw [newIds_len, hbl])
    refine ⟨fun i hi e => ?_, fun h => ?_⟩
    · rw [← hS']
      exact this.1 i (by rw [newIds_get, if_pos hi, e])
    · have hc : c ∉ newIds nid fd.n := by
        intro hm
        obtain ⟨i, hi⟩ := List.mem_iff_getElem?.1 hm
        exact h i (hnew i c hi).1 (hnew i c hi).2
      rw [← hS']
      refine (this.2 hc).trans ?_
      by_cases hcb : c = b
      · subst hcb; rw [upd_box_same, if_pos rfl]
      · rw [upd_box_other S _ hcb, if_neg hcb]
  have hin : ∀ c, (∃ i, i < fd.n ∧ c = nid + i) ∨ ∀ i, i < fd.n → c ≠ nid + i := by
    intro c
    by_cases h : ∃ i, i < fd.n ∧ c = nid + i
    · exact .inl h
    · exact .inr fun i hi e => h ⟨i, hi, e⟩
  have hsl : S'.slot = S.slot ∧ S'.nt = S.nt := by rw [← hS']; exact bx_slot _ S
  have hnp : S'.np = S.np := by rw [← hS']; exact bx_np _ S
  let inr : Nat → Bool := fun c => decide (nid ≤ c ∧ c < nid + fd.n)
  let σ' : Loc := ⟨fun c => bif inr c then σ1 (c - nid) else σ c, σ.zw, σ.zm, fun c => bif inr c then σ1.φ (c - nid) else (if c = b then (fun g => σ.φ b g ∧ ¬ (0 < fd.n ∧ Fs i0 g)) else σ.φ c)⟩
  let ν' : Nat → Value := fun c => bif inr c then ν1 (c - nid) else ν c
  have hinT : ∀ i, i < fd.n → σ' (nid + i) = σ1 i ∧ ν' (nid + i) = ν1 i ∧ σ'.φ (nid + i) = σ1.φ i := by
    intro i hi
    have h1 : inr (nid + i) = true := by simp [inr]; omega
    refine ⟨?_, ?_, ?_⟩
    · show (bif inr (nid + i) then σ1 (nid + i - nid) else _) = _
      rw [h1, Nat.add_sub_cancel_left]; rfl
    · show (bif inr (nid + i) then ν1 (nid + i - nid) else _) = _
      rw [h1, Nat.add_sub_cancel_left]; rfl
    · show (bif inr (nid + i) then σ1.φ (nid + i - nid) else _) = _
      rw [h1, Nat.add_sub_cancel_left]; rfl
  have hinF : ∀ c, (∀ i, i < fd.n → c ≠ nid + i) → σ' c = σ c ∧ ν' c = ν c ∧ σ'.φ c = if c = b then (fun g => σ.φ b g ∧ ¬ (0 < fd.n ∧ Fs i0 g)) else σ.φ c := by
    intro c hc
    have h1 : inr c = false := by
      simp only [inr, decide_eq_false_iff_not]
      rintro ⟨h1, h2⟩
      exact hc (c - nid) (by omega) (by omega)
    refine ⟨?_, ?_, ?_⟩
    · show (bif inr c then _ else σ c) = _
      rw [h1]; rfl
    · show (bif inr c then _ else ν c) = _
      rw [h1]; rfl
    · show (bif inr c then _ else _) = _
      rw [h1]; rfl
  have hbr : ∀ i, i < fd.n → b ≠ nid + i := fun i hi e => hbn i hi e.symm
  have hal : ∀ c, (S.box c).al → ∀ i, i < fd.n → c ≠ nid + i := fun c h i hi e => by rw [e, hun i hi] at h; exact h
  have hle : (S.env D M w0 σ ν).le (S'.env D M w0 σ' ν') := by
    refine ⟨fun c h => ?_, fun c h => (hinF c (hal c h)).1, fun c h => (hinF c (hal c h)).2.1, rfl, rfl, ⟨rfl, rfl⟩, fun g hg => ⟨hg, rfl⟩⟩
    show (S'.box c).al
    rw [(hSz c).2 (hal c h)]
    by_cases hcb : c = b
    · rw [if_pos hcb]; trivial
    · rw [if_neg hcb]; exact h
  have hren : RenF (shift nid fd.n) (ienv σ1 ν1 fd.n) (S'.env D M w0 σ' ν') := by
    refine ⟨fun i c h _ => ?_, fun i c h => ?_, fun i c h => ?_, fun g hg => ?_⟩
    · obtain ⟨h1, h2⟩ := shift_spec h
      show (S'.box c).al
      rw [(hSz c).1 i h1 h2]
      obtain ⟨s, hs⟩ : ∃ s, (fd.boxes (obE es key))[i]? = some s := ⟨_, List.getElem?_eq_getElem (by omega)⟩
      obtain ⟨t, ht, hrt⟩ := hug i s hs
      rw [ht]; exact (rnB_al hrt).2
    · obtain ⟨h1, rfl⟩ := shift_spec h
      exact (hinT i h1).1
    · obtain ⟨h1, rfl⟩ := shift_spec h
      exact (hinT i h1).2.1
    · rw [show (ienv σ1 ν1 fd.n).σ = σ1 from rfl, z2] at hg
      exact ⟨hg, by show σ.zw.heap[g]? = σ1.zw.heap[g]?; rw [z1]⟩
  have hfb : ∀ g, σ.φ b g → Fp D (S.env D M w0 σ ν) b (S.box b) g := fun g hg => by rw [hbx]; exact hg
  have hget : ∀ i, i < fd.n → ∃ s t, (fd.boxes (obE es key))[i]? = some s ∧ rnB D (shift nid fd.n) s = some t ∧ S'.box (nid + i) = t := by
    intro i hi
    obtain ⟨s, hs⟩ : ∃ s, (fd.boxes (obE es key))[i]? = some s := ⟨_, List.getElem?_eq_getElem (by omega)⟩
    obtain ⟨t, ht, hrt⟩ := hug i s hs
    exact ⟨s, t, hs, hrt, by rw [(hSz _).1 i hi rfl, ht]; rfl⟩
  have hFpN : ∀ i g, i < fd.n → Fp D (S'.env D M w0 σ' ν') (nid + i) (S'.box (nid + i)) g → Fs i0 g ∧ ∃ s, (fd.boxes (obE es key))[i]? = some s ∧ Fp D (ienv σ1 ν1 fd.n) i s g := by
    intro i g hi hg
    obtain ⟨s, t, h1, h2, h3⟩ := hget i hi
    rw [h3] at hg
    have := (rnB_blk (E := ienv σ1 ν1 fd.n) (F := S'.env D M w0 σ' ν') (hinT i hi).1 (hinT i hi).2.1 (hinT i hi).2.2 h2).1 hg
    exact ⟨(o3 i s h1).2.2 g this, s, h1, this⟩
  have hFpB : ∀ g, Fp D (S'.env D M w0 σ' ν') b (S'.box b) g ↔ σ.φ b g ∧ ¬ (0 < fd.n ∧ Fs i0 g) := by
    intro g
    rw [(hSz b).2 hbr, if_pos rfl]
    show σ'.φ b g ↔ _
    rw [(hinF b hbr).2.2, if_pos rfl]
  have hFpO : ∀ c g, c ≠ b → (∀ i, i < fd.n → c ≠ nid + i) → Fp D (S'.env D M w0 σ' ν') c (S'.box c) g → Fp D (S.env D M w0 σ ν) c (S.box c) g := by
    intro c g hcb hc hg
    rw [(hSz c).2 hc, if_neg hcb] at hg
    refine (fp_same (E := S.env D M w0 σ ν) (F := S'.env D M w0 σ' ν') (hinF c hc).1 (hinF c hc).2.1 ?_).1 hg
    show σ'.φ c = σ.φ c
    rw [(hinF c hc).2.2, if_neg hcb]
  have hall : ∀ c g, (c = b ∨ ∃ i, i < fd.n ∧ c = nid + i) → Fp D (S'.env D M w0 σ' ν') c (S'.box c) g → σ.φ b g := by
    intro c g hc hg
    rcases hc with rfl | ⟨i, hi, rfl⟩
    · exact ((hFpB g).1 hg).1
    · exact (q10 i0 g (hFpN i g hi hg).1).1
  refine ⟨σ', ν', vs, (cont_map hrow).1 q3, rfl, rfl, hR.step hle (fun c => c = b ∨ ∃ i, i < fd.n ∧ c = nid + i) ?_ ?_ ?_ ?_ hR.kept hnp hR.zk ?_ (fun c g _ h _ => hR.zd c g h) (fun g h => .inl h) (fun c hc => ?_), hle, ?_⟩
  · rintro c (rfl | ⟨i, hi, rfl⟩)
    · rw [(hSz c).2 hbr, if_pos rfl]
      refine ⟨fd, hfd, vs, setN Fs i0 (fun g => ¬ (0 < fd.n) ∧ Fs i0 g), ?_, q4, q5, fun g hg => ?_, fun g hg => ?_, fun x ps' e => ?_, fun i key' ob' v hi hv => ?_, fun i g hg => ?_, fun i j g h1 h2 => ?_⟩
      · rw [cont_map hrow] at q3 ⊢
        rw [show (S'.env D M w0 σ' ν').σ c = σ c from (hinF c hbr).1]
        exact q3
      · have hg' : σ'.φ c g := hg
        rw [(hinF c hbr).2.2, if_pos rfl] at hg'
        exact q6 g hg'.1
      · show σ'.φ c g
        rw [(hinF c hbr).2.2, if_pos rfl]
        have hg2 : IsCont D fd (S.env D M w0 σ ν) c g := by
          unfold IsCont at hg ⊢
          rw [hrow] at hg ⊢
          simp only at hg ⊢
          rw [show (S'.env D M w0 σ' ν').σ c = σ c from (hinF c hbr).1] at hg
          exact hg
        exact ⟨q7 g hg2, fun h => (q10 i0 g h.2).2 hg2⟩
      · rw [← hout] at e
        cases hz : Nat.beq fd.n 0 <;> simp only [hz, cond_true, cond_false] at e
        · simp only [Option.some.injEq, Prod.mk.injEq] at e
          rw [← e.1]; exact hhas
        · cases e
      · by_cases hii : i = i0
        · subst hii
          rw [hi0e] at hi
          simp only [Option.some.injEq, Prod.mk.injEq] at hi
          obtain ⟨rfl, rfl⟩ := hi
          rw [hv0] at hv
          simp only [Option.some.injEq] at hv
          subst hv
          cases hz : Nat.beq fd.n 0
          · refine .inl ⟨ps, by rw [← hout, hz]; rfl, o1.ren hren hps⟩
          · have hn0 := Nat.eq_of_beq_eq_true hz
            refine .inr ⟨(fun ps' e => by rw [← hout, hz] at e; cases e), ?_⟩
            rw [setN_same]
            refine ⟨σ1, ν1, z1, z2, o1, o2, fun i s hs => ?_, o4⟩
            obtain ⟨p1, p2, p3⟩ := o3 i s hs
            exact ⟨p1, p2, fun g hg => ⟨by omega, p3 g hg⟩⟩
        · rcases q9 i _ _ _ hi hv with ⟨ps', e1, _⟩ | ⟨_, e2⟩
          · cases e1
          · refine .inr ⟨fun ps' e => ?_, ?_⟩
            · rw [← hout] at e
              cases hz : Nat.beq fd.n 0 <;> simp only [hz, cond_true, cond_false] at e
              · simp only [Option.some.injEq, Prod.mk.injEq] at e
                obtain ⟨rfl, _⟩ := e
                exact hii (nodup_idx q4 hi hi0e)
              · cases e
            · rw [setN_other _ _ hii]
              exact e2.zone rfl rfl
      · have hcont : IsCont D fd (S'.env D M w0 σ' ν') c g → IsCont D fd (S.env D M w0 σ ν) c g := by
          intro hg
          unfold IsCont at hg ⊢
          rw [hrow] at hg ⊢
          simp only at hg ⊢
          rw [show (S'.env D M w0 σ' ν').σ c = σ c from (hinF c hbr).1] at hg
          exact hg
        show σ'.φ c g ∧ _
        rw [(hinF c hbr).2.2, if_pos rfl]
        by_cases hii : i = i0
        · rw [hii, setN_same] at hg
          exact ⟨⟨(q10 i0 g hg.2).1, fun h => hg.1 h.1⟩, fun h => (q10 i0 g hg.2).2 (hcont h)⟩
        · rw [setN_other _ _ hii] at hg
          exact ⟨⟨(q10 i g hg).1, fun h => hii (q11 i i0 g hg h.2)⟩, fun h => (q10 i g hg).2 (hcont h)⟩
      · by_cases hii : i = i0 <;> by_cases hjj : j = i0
        · rw [hii, hjj]
        · rw [hii, setN_same] at h1
          rw [setN_other _ _ hjj] at h2
          exact absurd (q11 j i0 g h2 h1.2) hjj
        · rw [setN_other _ _ hii] at h1
          rw [hjj, setN_same] at h2
          exact absurd (q11 i i0 g h1 h2.2) hii
        · rw [setN_other _ _ hii] at h1
          rw [setN_other _ _ hjj] at h2
          exact q11 i j g h1 h2
    · obtain ⟨s, t, h1, h2, h3⟩ := hget i hi
      rw [h3]
      exact rnB_rel hren (b := i) (hinT i hi).1 (hinT i hi).2.1 (hinT i hi).2.2 h2 (XK_box.1 (o3 i s h1).2.1).2
  · intro c hc
    have h1 : c ≠ b := fun e => hc (.inl e)
    have h2 : ∀ i, i < fd.n → c ≠ nid + i := fun i hi e => hc (.inr ⟨i, hi, e⟩)
    refine .inl ⟨?_, fun _ _ => rfl⟩
    rw [(hSz c).2 h2, if_neg h1]
  · rintro c c' g hc hne h1 h2
    have hcg := hall c g hc h1
    rcases hin c' with ⟨j, hj, rfl⟩ | hc'
    · have hf := (hFpN j g hj h2).1
      rcases hc with rfl | ⟨i, hi, rfl⟩
      · exact ((hFpB g).1 h1).2 ⟨by omega, hf⟩
      · obtain ⟨_, s, hs, hsg⟩ := hFpN i g hi h1
        obtain ⟨_, t, ht, htg⟩ := hFpN j g hj h2
        exact o4 i j s t g (fun e => hne (by rw [e])) hs ht hsg htg
    · by_cases hcb : c' = b
      · subst hcb
        rcases hc with e | ⟨i, hi, rfl⟩
        · exact hne e
        · exact ((hFpB g).1 h2).2 ⟨by omega, (hFpN i g hi h1).1⟩
      · exact hR.disj c' b g hcb (hFpO c' g hcb hc' h2) (hfb g hcg)
  · intro c g hc h
    exact hR.lo b g (hfb g (hall c g hc h))
  · intro c g hc h
    exact hR.zd b g (hfb g (hall c g hc h))
  · have h1 : c ≠ b := fun e => hc (.inl e)
    have h2 : ∀ i, i < fd.n → c ≠ nid + i := fun i hi e => hc (.inr ⟨i, hi, e⟩)
    rw [(hinF c h2).2.2, if_neg h1]
  · intro i v hi hv
    have := nodup_idx q4 hi hi0e
    subst this
    rw [hv0] at hv
    simp only [Option.some.injEq] at hv
    subst hv
    exact o1.ren hren hps
theorem famFits_spec {fd : FamD D.τ} {t : TypeId} (h : famFits P D fd t = true) : fd.row = false ∧ P.underlying t = some (.map fd.kt fd.vt) ∧ fd.vagg = aggB P fd.vt ∧ ∃ n, szOf P fd.vt = some n := by
  unfold famFits at h
  split at h
  · rename_i kt vt ht
    simp only [Bool.and_eq_true, Bool.not_eq_true', beq_iff_eq] at h
    obtain ⟨⟨h1, h2, h3⟩, h4, h5⟩ := h
    have e1 := Nat.eq_of_beq_eq_true h2
    have e2 := Nat.eq_of_beq_eq_true h3
    subst e1; subst e2
    exact ⟨h1, ht, h4, Option.isSome_iff_exists.1 h5⟩
  · cases h
theorem look_run {fd : FamD D.τ} {t : TypeId} {w : World} {r : Nat} {es : List (Rec × Ob)} {vs : List Value} (hm : MapAt fd w r (es.map (·.1)) vs) (ht : P.underlying t = some (.map fd.kt fd.vt)) (hK : KeyT P fd.kt fd.kagg fd.ksh) {key : Rec} (hk : keyOK fd.ksh key = true) (ok : Bool) :
    (hasE es key = false → ∀ z, (zeroValue fd.vt).run P w = .ok z w → (Instr.lookup t (.map (some r)) (keyV fd.kagg fd.ksh key) ok).run P w = .ok (if ok then .tuple #[z, .bool false] else z) w) ∧
    ∀ (i : Nat) v, (es.map (·.1)).findIdx? (· == key) = some i → vs[i]? = some v → (Instr.lookup t (.map (some r)) (keyV fd.kagg fd.ksh key) ok).run P w = .ok (if ok then .tuple #[v, .bool true] else v) w := by
  obtain ⟨ens, clock, h1, h2, h3, h4, h5⟩ := hm
  obtain ⟨k1, k2, k3⟩ := hK w key hk
  have k2' := k2 ens.toList _ h2 h5
  refine ⟨fun hh z hz => ?_, fun i v hi hv => ?_⟩
  · rw [(has_not hh).1] at k2'
    simp [Instr.lookup, run_underlying ht, MapKept.run_getObj_map h1, k1, k2', hz, Result.andThen]
  · rw [hi] at k2'
    have hvi : (ens.toList[i]?).map (fun e => (i, e.val)) = some (i, v) := by
      rw [← h3, List.getElem?_map] at hv
      cases he : ens.toList[i]? with
      | none => rw [he] at hv; cases hv
      | some e =>
        rw [he] at hv
        simp only [Option.map_some, Option.some.injEq] at hv
        rw [Option.map_some, hv]
    simp only [hvi] at k2'
    simp [Instr.lookup, run_underlying ht, MapKept.run_getObj_map h1, k1, k2', Result.andThen]
theorem key_val {E : Env} {sh : List FK} : ∀ {ps : List (Part D.τ)} {key : Rec} {cs : List Value} (pre : Rec), mkRec D sh ps = some key → keyOK sh key = true → PartsRel D E ps cs → cs = keyCells sh pre.length (pre ++ key) := by
  intro ps key cs pre h hk hp
  have hr := mkRec_sound pre h hp
  clear h hp
  induction sh generalizing key cs pre with
  | nil => cases hr; rfl
  | cons f fs ih =>
    obtain ⟨c1, c2, rfl, h1, h2⟩ := hr
    cases key with
    | nil => cases f <;> simp [keyOK] at hk
    | cons x key =>
      have ih' := ih (key := key) (cs := c2) (pre ++ [x])
      rw [List.length_append, List.append_assoc] at ih'
      cases f with
      | int k =>
        cases x <;> simp only [keyOK, Bool.false_eq_true] at hk
        have e := ih' hk h2
        rw [show c1 = _ from h1, e]; rfl
      | bool =>
        cases x <;> simp only [keyOK, Bool.false_eq_true] at hk
        have e := ih' hk h2
        rw [show c1 = _ from h1, e]; rfl
      | str =>
        cases x <;> simp only [keyOK, Bool.false_eq_true] at hk
        have e := ih' hk h2
        rw [show c1 = _ from h1, e]; rfl
      | words k => cases x <;> simp [keyOK] at hk
      | arr k n => cases x <;> simp [keyOK] at hk
theorem key_eval {E : Env} {sh : List FK} {agg : Bool} {x : AV D.τ} {ps : List (Part D.τ)} {key : Rec} {v : Value} (h : partsOf x = some ps) (hm : mkRec D sh ps = some key) (hk : keyOK sh key = true) (hx : AVRel D E x v) (ha : agg = isAggA x) : v = keyV agg sh key := by
  have hv := val_parts h hx
  rw [← ha] at hv
  cases agg with
  | true =>
    obtain ⟨cs, rfl, hp⟩ := hv
    have := key_val [] hm hk hp
    rw [this]; rfl
  | false =>
    have := key_val [] hm hk hv.2
    unfold keyV
    simp only [List.nil_append, List.length_nil] at this
    rw [← this]; rfl
theorem wrapOk_rel {E : Env} {ok b : Bool} {a r : AV D.τ} {v : Value} (h : wrapOk D ok a b = some r) (hv : AVRel D E a v) : AVRel D E r (if ok then .tuple #[v, .bool b] else v) := by
  unfold wrapOk at h
  split at h
  · cases ok <;> simp only [cond_true, cond_false, Option.some.injEq] at h <;> subst h
    · exact hv
    · exact ⟨[v, .bool b], rfl, _, _, rfl, hv, _, _, rfl, ⟨rfl, rfl⟩, rfl⟩
  · cases h
theorem zero_val {E : Env} {t : TypeId} {agg : Bool} {zs : List (Part D.τ)} {a : AV D.τ} (hz : zeroParts P t = some zs) (ha : (bif zeroAgg P t == agg then mkAV agg zs else none) = some a) (w : World) : ∃ z, (zeroValue t).run P w = .ok z w ∧ AVRel D E a z := by
  obtain ⟨i, z, hi, hiz, hp⟩ := zeroParts_spec (P := P) hz
  have hrun : (zeroValue t).run P w = .ok z w := by simp [zeroValue, typeInfo, hi, hiz]
  refine ⟨z, hrun, ?_⟩
  cases hb : (zeroAgg P t == agg) <;> simp only [hb, cond_true, cond_false] at ha
  · cases ha
  have hag : zeroAgg P t = agg := eq_of_beq hb
  refine mkAV_val ha ?_
  have hpz := hp E
  unfold zeroAgg at hag
  rw [hi, Option.bind_some, hiz] at hag
  split at hag
  · rename_i cs e
    simp only [Option.some.injEq] at e
    subst e
    subst hag
    exact ⟨cs.toList, by simp, hpz⟩
  · rename_i hne
    subst hag
    have hone : z.cells = #[z] := by
      cases z <;> first | rfl | exact absurd rfl (hne _)
    rw [hone] at hpz
    exact ⟨hpz.oneCell z (by simp), hpz⟩
theorem settled_run {α : Type} {k b : Nat} {fd : FamD D.τ} {es : List (Rec × Ob)} {out : Option (Rec × List (Part D.τ))} {f : List (Nat × BoxSt D.τ) → List (Rec × Ob) → List Prop → Rd D.τ α} {S : St D.τ} {r : α} {l : List Ref}
    (h : (settled D k b fd es out f).run S = some (r, l)) : ∃ us es' qs l', (f us es' qs).run S = some (r, l') ∧ ((out = none ∧ us = [] ∧ es' = es ∧ qs = []) ∨ ∃ key ps l1, out = some (key, ps) ∧ (putBack D k b fd es key ps).run S = some ((us, es', qs), l1)) := by
  unfold settled at h
  split at h
  · exact ⟨[], es, [], l, h, .inl ⟨rfl, rfl, rfl, rfl⟩⟩
  · rename_i key ps
    obtain ⟨⟨us, es', qs⟩, l1, l2, h1, h2⟩ := bind_run h
    exact ⟨us, es', qs, l2, h2, .inr ⟨key, ps, l1, rfl, h1⟩⟩
theorem settled_sound {M : Mem} {w0 : World} {σ : Loc} {ν : Nat → Value} {S : St D.τ} {w : World} (hR : RR D M w0 σ ν S w) {b k : Nat} {es : List (Rec × Ob)} {out : Option (Rec × List (Part D.τ))} {fd : FamD D.τ} (hbx : S.box b = .fam k es out) (hfd : D.fam k = some fd)
    {us : List (Nat × BoxSt D.τ)} {es' : List (Rec × Ob)} {qs : List Prop} (hq : AllQ qs) (h : (out = none ∧ us = [] ∧ es' = es ∧ qs = []) ∨ ∃ key ps l1, out = some (key, ps) ∧ (putBack D k b fd es key ps).run S = some ((us, es', qs), l1)) :
    ∃ φ, RR D M w0 ⟨σ.f, σ.zw, σ.zm, φ⟩ ν (S.bx (us ++ [(b, .fam k es' none)])) w ∧ (S.env D M w0 σ ν).le ((S.bx (us ++ [(b, .fam k es' none)])).env D M w0 ⟨σ.f, σ.zw, σ.zm, φ⟩ ν) ∧
      (∀ c, S.box c = .un → (S.bx (us ++ [(b, .fam k es' none)])).box c = .un) := by
  rcases h with ⟨rfl, rfl, rfl, rfl⟩ | ⟨key, ps, l1, rfl, h⟩
  · have hS : S.bx ([] ++ [(b, .fam k es' none)]) = S := by
      show S.upd (.box b (.fam k es' none)) = S
      obtain ⟨sl, bx, nt, np⟩ := S
      unfold St.upd
      simp only [St.mk.injEq, true_and, and_true]
      funext i
      by_cases hi : i = b
      · subst hi; rw [Nat.beq_refl]; exact hbx.symm
      · rw [beq_ne hi]; rfl
    rw [hS]
    exact ⟨σ.φ, hR, ⟨fun _ h => h, fun _ _ => rfl, fun _ _ => rfl, rfl, rfl, ⟨rfl, rfl⟩, fun g hg => ⟨hg, rfl⟩⟩, fun c hc => hc⟩
  · exact putBack_sound hR hbx hfd h hq
theorem bx_app (us vs : List (Nat × BoxSt D.τ)) (S : St D.τ) : S.bx (us ++ vs) = (S.bx us).bx vs := by
  induction us generalizing S with
  | nil => rfl
  | cons u us ih => exact ih (S.upd (.box u.1 u.2))
theorem bx_again (us vs : List (Nat × BoxSt D.τ)) (S : St D.τ) (b : Nat) (s t : BoxSt D.τ) : S.bx (us ++ ((b, s) :: vs)) = (S.bx (us ++ [(b, t)])).bx ((b, s) :: vs) := by
  rw [bx_app, bx_app, bx_one]
  show ((S.bx us).upd (.box b s)).bx vs = (((S.bx us).upd (.box b t)).upd (.box b s)).bx vs
  rw [upd_twice]
theorem sound_lookup (Γ : Gam D) (nid : Nat) (dst : Option Tmp) (t : TypeId) (x y : Operand) (ok : Bool) : Sound P D (oLookup P D Γ nid dst t x y ok) (fun ρ => do pure (.value (← Instr.lookup t (ρ x) (ρ y) ok))) := by
  intro S r l h hps M w0 a w ⟨σ, ν, hR, hA⟩
  unfold oLookup at h
  obtain ⟨av, l0, hav, h⟩ := rdA_run h
  split at h
  case h_2 => simp at h
  rename_i b
  obtain ⟨_, hal, hxv⟩ := evalA_rel hA hav
  simp only [List.cons.injEq, and_true] at hxv
  have hxv : a.eval x = .map (some (σ b)) := hxv
  obtain ⟨kav, l1, hkav, h⟩ := rdA_run h
  have hkr := evalA_rel hA hkav
  split at h
  case h_2 => simp at h
  rename_i kps hkps
  obtain ⟨l2, h⟩ := box_run h
  split at h
  case h_2 => simp at h
  rename_i k es out hbx
  split at h
  case h_2 => simp at h
  rename_i fd hfd
  generalize hff : (famFits P D fd t && (fd.kagg == isAggA kav)) = ff at h
  cases ff <;> simp only [cond_true, cond_false, run_fail] at h
  simp only [Bool.and_eq_true, beq_iff_eq] at hff
  obtain ⟨hrow, ht, hvagg, _⟩ := famFits_spec hff.1
  split at h
  case h_2 => simp at h
  rename_i key hkey
  have hkv : ∀ (hk : keyOK fd.ksh key = true), a.eval y = keyV fd.kagg fd.ksh key := fun hk => key_eval hkps hkey hk hkr hff.2
  split at h
  · split at h
    case h_2 => simp at h
    rename_i zs hzs
    split at h
    case h_2 => simp at h
    rename_i za hza
    split at h
    case h_2 => simp at h
    rename_i rv hrv
    simp only [run_ret] at h
    obtain ⟨rfl, _⟩ := h
    have hK : KeyT P fd.kt fd.kagg fd.ksh := hps _ (by simp)
    have hk : keyOK fd.ksh key = true := hps (keyOK fd.ksh key = true) (by simp)
    have hh : hasE es key = false := hps (hasE es key = false) (by simp)
    have hold := hR.boxes b
    rw [hbx] at hold
    obtain ⟨fd', hfd', vs, Fs, q3, _⟩ := hold
    rw [hfd] at hfd'
    simp only [Option.some.injEq] at hfd'
    subst hfd'
    rw [cont_map hrow] at q3
    obtain ⟨z, hz1, hz2⟩ := zero_val (E := S.env D M w0 σ ν) hzs hza w
    have hrun := (look_run q3 ht hK hk ok).1 hh z hz1
    refine upTo_val (w' := w) (v := if ok then .tuple #[z, .bool false] else z) ?_ (lands_pure hR hA (wrapOk_rel hrv hz2))
    rw [hxv, hkv hk]
    exact hrun
  · obtain ⟨us, es', qs, l3, h, hset⟩ := settled_run h
    obtain ⟨⟨l4, h⟩, hun⟩ := rdUn_run h
    split at h
    case h_2 => simp at h
    rename_i ps bs hps' hbs
    split at h
    case h_2 => simp at h
    rename_i va hva
    split at h
    case h_2 => simp at h
    rename_i rv hrv
    simp only [run_ret] at h
    obtain ⟨rfl, _⟩ := h
    have hK : KeyT P fd.kt fd.kagg fd.ksh := hps _ (by simp)
    have hk : keyOK fd.ksh key = true := hps (keyOK fd.ksh key = true) (by simp)
    have hh : hasE es' key = true := hps (hasE es' key = true) (by simp)
    have hqs : AllQ qs := fun p hp => hps p (by simp [hp])
    obtain ⟨φ, hR1, hle1, hun1⟩ := settled_sound hR hbx hfd hqs hset
    have hbx1 : (S.bx (us ++ [(b, .fam k es' none)])).box b = .fam k es' none := by
      rw [bx_app, bx_one, upd_box_same]
    obtain ⟨σ', ν', vs, q3, _, _, hR2, hle2, hval⟩ := takeOut_sound hR1 hbx1 hfd hrow (fun i hi => hun1 _ (hun i hi)) hps' hbs hh
    obtain ⟨i0, hi0, hi0l, hi0e, _, _⟩ := has_idx hh
    have hvl : vs.length = es'.length := by
      obtain ⟨ens, clock, h1, h2, h3, _⟩ := q3
      have := congrArg List.length h2
      rw [List.length_map, List.length_map, List.length_map] at this
      rw [← h3, List.length_map, this]
    obtain ⟨v0, hv0⟩ : ∃ v, vs[i0]? = some v := ⟨_, List.getElem?_eq_getElem (by omega)⟩
    have hrun := (look_run (P := P) q3 ht hK hk ok).2 i0 v0 hi0 hv0
    have hv := hval i0 v0 hi0e hv0
    have hA1 := hA.mono hle1 (bx_slot _ S).1 (bx_slot _ S).2
    have hA2 := hA1.mono hle2 (bx_slot _ _).1 (bx_slot _ _).2
    refine upTo_val (w' := w) (v := if ok then .tuple #[v0, .bool true] else v0) ?_ ?_
    · rw [hxv, hkv hk]
      exact hrun
    · unfold Lands
      simp only
      rw [bx_again us _ S b _ (.fam k es' none)]
      exact ⟨σ', ν', hR2, hA2, wrapOk_rel hrv (mkAV_val hva hv)⟩
  · split at h
    case h_2 => simp at h
    rename_i key' ps
    split at h
    case h_2 => simp at h
    rename_i va hva
    split at h
    case h_2 => simp at h
    rename_i rv hrv
    simp only [run_ret] at h
    obtain ⟨rfl, _⟩ := h
    have hK : KeyT P fd.kt fd.kagg fd.ksh := hps _ (by simp)
    have hk : keyOK fd.ksh key = true := hps (keyOK fd.ksh key = true) (by simp)
    have hkk : key = key' := hps (key = key') (by simp)
    subst hkk
    have hold := hR.boxes b
    rw [hbx] at hold
    obtain ⟨fd', hfd', vs, Fs, q3, q4, q5, q6, q7, q8, q9, _⟩ := hold
    rw [hfd] at hfd'
    simp only [Option.some.injEq] at hfd'
    subst hfd'
    rw [cont_map hrow] at q3
    obtain ⟨i0, hi0, hi0l, hi0e, _, _⟩ := has_idx (q8 key ps rfl)
    obtain ⟨v0, hv0⟩ : ∃ v, vs[i0]? = some v := ⟨_, List.getElem?_eq_getElem (by omega)⟩
    have hval : ValRel D (S.env D M w0 σ ν) fd.vagg ps v0 := by
      rcases q9 i0 _ _ _ hi0e hv0 with ⟨ps', e1, e2⟩ | ⟨e1, _⟩
      · simp only [Option.some.injEq, Prod.mk.injEq, true_and] at e1
        subst e1; exact e2
      · exact (e1 ps rfl).elim
    have hrun := (look_run (P := P) q3 ht hK hk ok).2 i0 v0 hi0 hv0
    refine upTo_val (w' := w) (v := if ok then .tuple #[v0, .bool true] else v0) ?_ (lands_pure hR hA (wrapOk_rel hrv (mkAV_val hva hval)))
    rw [hxv, hkv hk]
    exact hrun
theorem setMap_grown {w : World} {r : Nat} (o : Obj) : w.grownBy { w with heap := w.heap.setIfInBounds r o } (some r) :=
  ⟨rfl, rfl, rfl, by simp, fun k _ hk => by
    show (w.heap.setIfInBounds r o)[k]? = _
    rw [Array.getElem?_setIfInBounds]
    split
    · rename_i e; exact absurd (by rw [e]) hk
    · rfl⟩
theorem setMap_at {w : World} {r : Nat} {o : Obj} (h : r < w.heap.size) : ({ w with heap := w.heap.setIfInBounds r o } : World).heap[r]? = some o := by
  show (w.heap.setIfInBounds r o)[r]? = _
  rw [Array.getElem?_setIfInBounds]
  simp [h]
theorem modify_key {l : List MapEntry} {i : Nat} {e0 : MapEntry} {v : Value} (hi : l[i]? = some e0) (key : Value) (hk : e0.key = key) :
    (l.modify i fun e => { e with key := key, val := v }).map (·.key) = l.map (·.key) ∧ (l.modify i fun e => { e with key := key, val := v }).map (·.val) = (l.map (·.val)).set i v ∧ (l.modify i fun e => { e with key := key, val := v }).map (·.born) = l.map (·.born) := by
  refine ⟨?_, ?_, ?_⟩
  · apply List.ext_getElem?
    intro j
    simp only [List.getElem?_map, List.getElem?_modify]
    by_cases hj : i = j
    · subst hj; simp [hi, hk]
    · simp [hj]
  · apply List.ext_getElem?
    intro j
    simp only [List.getElem?_map, List.getElem?_modify, List.getElem?_set]
    by_cases hj : i = j
    · subst hj
      have := (List.getElem?_eq_some_iff.1 hi).1
      simp [this]
    · simp [hj]
  · apply List.ext_getElem?
    intro j
    simp only [List.getElem?_map, List.getElem?_modify]
    by_cases hj : i = j
    · subst hj; simp [hi]
    · simp [hj]
theorem update_run {fd : FamD D.τ} {t : TypeId} {w : World} {r : Nat} {es : List (Rec × Ob)} {vs : List Value} (hm : MapAt fd w r (es.map (·.1)) vs) (ht : P.underlying t = some (.map fd.kt fd.vt)) (hK : KeyT P fd.kt fd.kagg fd.ksh) {key : Rec} (hk : keyOK fd.ksh key = true) (v : Value) (o : Ob) :
    ∃ w' vs', (Instr.mapUpdate t (.map (some r)) (keyV fd.kagg fd.ksh key) v).run P w = .ok () w' ∧ w.grownBy w' (some r) ∧ MapAt fd w' r ((setE es key o).map (·.1)) vs' ∧
      match (es.map (·.1)).findIdx? (· == key) with
      | some i => vs' = vs.set i v
      | none => vs' = vs ++ [v] := by
  obtain ⟨ens, clock, h1, h2, h3, h4, h5⟩ := hm
  obtain ⟨k1, k2, k3⟩ := hK w key hk
  have k2' := k2 ens.toList _ h2 h5
  have hlt : r < w.heap.size := (Array.getElem?_eq_some_iff.1 h1).1
  have hf := find_ks (key := key) es
  cases hfi : (es.map (·.1)).findIdx? (· == key) with
  | none =>
    rw [hfi] at k2' hf
    obtain ⟨f1, f2, f3, f4⟩ := hf
    refine ⟨{ w with heap := w.heap.setIfInBounds r (.map (ens.push { key := keyV fd.kagg fd.ksh key, val := v, born := clock }) (clock + 1)) }, vs ++ [v], ?_, setMap_grown _, ⟨_, _, setMap_at hlt, ?_, ?_, ⟨?_, ?_⟩, ?_⟩, rfl⟩
    · simp [Instr.mapUpdate, run_underlying ht, MapKept.run_getObj_map h1, k1, k2', MapKept.run_setObj_map _ h1, Result.andThen]
    · rw [Array.toList_push, List.map_append, h2, f2, List.map_append, List.map_append]; rfl
    · rw [Array.toList_push, List.map_append, h3]; rfl
    · rw [Array.toList_push, List.map_append, List.pairwise_append]
      refine ⟨h4.1, by simp, fun a ha b hb => ?_⟩
      obtain ⟨e, he, rfl⟩ := List.mem_map.1 ha
      simp only [List.map_cons, List.map_nil, List.mem_singleton] at hb
      subst hb
      exact h4.2 e he
    · intro e he
      rw [Array.toList_push] at he
      rcases List.mem_append.1 he with he | he
      · exact Nat.lt_succ_of_lt (h4.2 e he)
      · simp only [List.mem_singleton] at he
        subst he; exact Nat.lt_succ_self _
    · intro x hx
      rw [f2, List.map_append] at hx
      rcases List.mem_append.1 hx with hx | hx
      · exact h5 x hx
      · simp only [List.map_cons, List.map_nil, List.mem_singleton] at hx
        subst hx; exact hk
  | some i =>
    rw [hfi] at k2' hf
    obtain ⟨f0, ⟨ob, f1, f2⟩, f3, f4⟩ := hf
    have hel : ens.toList.length = es.length := by
      have := congrArg List.length h2
      simpa using this
    obtain ⟨e0, he0⟩ : ∃ e, ens.toList[i]? = some e := ⟨_, List.getElem?_eq_getElem (by omega)⟩
    have hek : e0.key = keyV fd.kagg fd.ksh key := by
      have := congrArg (fun l => l[i]?) h2
      simp only [List.getElem?_map, he0, f1, Option.map_some, Option.some.injEq] at this
      exact this
    simp only [he0, Option.map_some] at k2'
    have hge : ens[i]? = some e0 := by rw [← Array.getElem?_toList]; exact he0
    obtain ⟨m1, m2, m3⟩ := modify_key (v := v) he0 _ hek
    have hks := k3 key hk rfl
    refine ⟨{ w with heap := w.heap.setIfInBounds r (.map (ens.modify i fun e => { e with key := keyV fd.kagg fd.ksh key, val := v }) clock) }, vs.set i v, ?_, setMap_grown _, ⟨_, _, setMap_at hlt, ?_, ?_, ⟨?_, ?_⟩, ?_⟩, rfl⟩
    · simp [Instr.mapUpdate, run_underlying ht, MapKept.run_getObj_map h1, k1, k2', hge, hek, hks, MapKept.run_setObj_map _ h1, Result.andThen]
    · rw [Array.toList_modify, m1, h2, f3, List.map_set, List.map_set]
      refine (List.set_getElem?_self' ?_).symm
      rw [List.getElem?_map, List.getElem?_map, f1]; rfl
    · rw [Array.toList_modify, m2, h3]
    · rw [Array.toList_modify, m3]; exact h4.1
    · intro e he
      rw [Array.toList_modify] at he
      have : e.born ∈ ens.toList.map (·.born) := by rw [← m3]; exact List.mem_map.2 ⟨e, he, rfl⟩
      obtain ⟨e', h1', h2'⟩ := List.mem_map.1 this
      rw [← h2']; exact h4.2 e' h1'
    · intro x hx
      rw [f3, List.map_set] at hx
      rw [List.set_getElem?_self' (by rw [List.getElem?_map, f1]; rfl)] at hx
      exact h5 x hx
theorem delete_run {fd : FamD D.τ} {t u ty : TypeId} {w : World} {r : Nat} {es : List (Rec × Ob)} {vs : List Value} (hm : MapAt fd w r (es.map (·.1)) vs) (ht : P.underlying t = some (.map fd.kt fd.vt)) (hK : KeyT P fd.kt fd.kagg fd.ksh) {key : Rec} (hk : keyOK fd.ksh key = true) :
    ∃ w' vs', (Builtin.delete_ #[t, u] ty #[.map (some r), keyV fd.kagg fd.ksh key]).run P w = .ok (.tuple #[]) w' ∧ w.grownBy w' (some r) ∧ MapAt fd w' r ((delE es key).map (·.1)) vs' ∧
      match (es.map (·.1)).findIdx? (· == key) with
      | some i => vs' = vs.eraseIdx i
      | none => vs' = vs := by
  obtain ⟨ens, clock, h1, h2, h3, h4, h5⟩ := hm
  obtain ⟨k1, k2, k3⟩ := hK w key hk
  have k2' := k2 ens.toList _ h2 h5
  have hlt : r < w.heap.size := (Array.getElem?_eq_some_iff.1 h1).1
  have hf := find_ks (key := key) es
  cases hfi : (es.map (·.1)).findIdx? (· == key) with
  | none =>
    rw [hfi] at k2' hf
    obtain ⟨f1, f2, f3, f4⟩ := hf
    refine ⟨{ w with heap := w.heap.setIfInBounds r (.map ens clock) }, vs, ?_, setMap_grown _, ⟨ens, clock, setMap_at hlt, by rw [f3]; exact h2, h3, h4, by rw [f3]; exact h5⟩, rfl⟩
    simp [Builtin.delete_, run_underlying ht, MapKept.run_getObj_map h1, k1, k2', MapKept.run_setObj_map _ h1, Result.andThen]
  | some i =>
    rw [hfi] at k2' hf
    obtain ⟨f0, ⟨ob, f1, f2⟩, f3, f4⟩ := hf
    have hel : ens.toList.length = es.length := by
      have := congrArg List.length h2
      simpa using this
    obtain ⟨e0, he0⟩ : ∃ e, ens.toList[i]? = some e := ⟨_, List.getElem?_eq_getElem (by omega)⟩
    simp only [he0, Option.map_some] at k2'
    have hi : i < ens.size := by rw [← Array.length_toList]; omega
    have htl : (ens.eraseIdxIfInBounds i).toList = ens.toList.eraseIdx i := by
      unfold Array.eraseIdxIfInBounds
      rw [dif_pos hi, Array.toList_eraseIdx]
    have hmap : ∀ {β : Type} (f : MapEntry → β), (ens.toList.eraseIdx i).map f = (ens.toList.map f).eraseIdx i := fun f => by
      rw [List.eraseIdx_eq_take_drop_succ, List.eraseIdx_eq_take_drop_succ, List.map_append, List.map_take, List.map_drop]
    refine ⟨{ w with heap := w.heap.setIfInBounds r (.map (ens.eraseIdxIfInBounds i) clock) }, vs.eraseIdx i, ?_, setMap_grown _, ⟨_, clock, setMap_at hlt, ?_, ?_, ⟨?_, ?_⟩, ?_⟩, rfl⟩
    · simp [Builtin.delete_, run_underlying ht, MapKept.run_getObj_map h1, k1, k2', MapKept.run_setObj_map _ h1, Result.andThen]
    · rw [htl, hmap, h2, f4]
      rw [List.eraseIdx_eq_take_drop_succ, List.eraseIdx_eq_take_drop_succ]
      simp only [List.map_append, List.map_take, List.map_drop]
    · rw [htl, hmap, h3]
    · rw [htl, hmap]; exact h4.1.sublist (List.eraseIdx_sublist _ _)
    · intro e he
      rw [htl] at he
      exact h4.2 e ((List.eraseIdx_sublist _ _).subset he)
    · intro x hx
      rw [f4] at hx
      obtain ⟨p, hp, rfl⟩ := List.mem_map.1 hx
      exact h5 _ (List.mem_map.2 ⟨p, (List.eraseIdx_sublist _ _).subset hp, rfl⟩)
theorem S_upd {S : St D.τ} {b : Nat} {s : BoxSt D.τ} : ∀ c, (S.bx [(b, s)]).box c = if c = b then s else if c ∈ ([] : List Nat) then .dead else S.box c := by
  intro c
  show (S.upd (.box b s)).box c = _
  by_cases h : c = b
  · subst h; rw [upd_box_same]; simp
  · rw [upd_box_other S s h]; simp [h]
theorem update_lands {M : Mem} {w0 : World} {σ : Loc} {ν : Nat → Value} {S : St D.τ} {a : Act} {w : World} (hR : RR D M w0 σ ν S w) (hA : RA D M w0 σ ν S a) {b k : Nat} {es : List (Rec × Ob)} {out out' : Option (Rec × List (Part D.τ))} {fd : FamD D.τ} {key : Rec} {ob : Ob}
    (hbx : S.box b = .fam k es out) (hfd : D.fam k = some fd) (hrow : fd.row = false) {t : TypeId} (ht : P.underlying t = some (.map fd.kt fd.vt)) (hK : KeyT P fd.kt fd.kagg fd.ksh) (hk : keyOK fd.ksh key = true) {v : Value}
    (hout : ∀ x ps, out = some (x, ps) → key = x) (hout' : ∀ x ps, out' = some (x, ps) → key = x) (hnew : EntRel D (XK D k) fd (S.env D M w0 σ ν) w out' key ob v (fun _ => False)) {qs : List Prop} :
    ∃ w', (Instr.mapUpdate t (.map (some (σ b))) (keyV fd.kagg fd.ksh key) v).run P w = .ok () w' ∧ Lands M w0 S a ⟨.tup [], [(b, .fam k (setE es key ob) out')], qs⟩ undef w' := by
  have hold := hR.boxes b
  rw [hbx] at hold
  obtain ⟨fd', hfd', vs, Fs, q3, q4, q5, q6, q7, q8, q9, q10, q11⟩ := hold
  rw [hfd] at hfd'
  simp only [Option.some.injEq] at hfd'
  subst hfd'
  rw [cont_map hrow] at q3
  obtain ⟨w', vs', hrun, hg, hm, hvs⟩ := update_run q3 ht hK hk v ob
  refine ⟨w', hrun, ?_⟩
  have hcb : σ.φ b (σ b) := q7 _ (by unfold IsCont; rw [hrow]; rfl)
  have hf := find_ks (key := key) es
  obtain ⟨i0, hi00⟩ : ∃ i0, i0 = (match (es.map (·.1)).findIdx? (· == key) with | some i => i | none => es.length) := ⟨_, rfl⟩
  have hle0 : (S.env D M w0 σ ν).le ((S.bx [(b, .fam k (setE es key ob) out')]).env D M w0 ⟨σ.f, σ.zw, σ.zm, setN σ.φ b (σ.φ b)⟩ ν) := by
    refine ⟨fun c h => ?_, fun _ _ => rfl, fun _ _ => rfl, rfl, rfl, ⟨rfl, rfl⟩, fun g hg => ⟨hg, rfl⟩⟩
    show ((S.bx [(b, .fam k (setE es key ob) out')]).box c).al
    rw [S_upd]
    by_cases hc : c = b
    · rw [if_pos hc]; trivial
    · rw [if_neg hc, if_neg (by simp)]; exact h
  have hw : ∀ i g, Fs i g → w'.heap[g]? = w.heap[g]? := fun i g hg' => hg.block g (q6 g (q10 i g hg').1) (fun e => by
    simp only [Option.some.injEq] at e
    exact (q10 i g hg').2 (by unfold IsCont; rw [hrow]; exact e.symm))
  have hold2 : ∀ (i : Nat) key' ob' v', key' ≠ key → es[i]? = some (key', ob') → vs[i]? = some v' → EntRel D (XK D k) fd ((S.bx [(b, .fam k (setE es key ob) out')]).env D M w0 ⟨σ.f, σ.zw, σ.zm, setN σ.φ b (σ.φ b)⟩ ν) w' out' key' ob' v' (Fs i) := by
    intro i key' ob' v' hne hi hv
    rcases q9 i _ _ _ hi hv with ⟨ps, e1, _⟩ | ⟨_, e2⟩
    · exact (hne (hout _ _ e1).symm).elim
    · refine .inr ⟨fun ps e => hne (hout' _ _ e).symm, ?_⟩
      exact (e2.mono (XK_stays k) (Loc.le_refl σ) fun g hg => hw i g hg).zone rfl rfl
  have hnew2 : EntRel D (XK D k) fd ((S.bx [(b, .fam k (setE es key ob) out')]).env D M w0 ⟨σ.f, σ.zw, σ.zm, setN σ.φ b (σ.φ b)⟩ ν) w' out' key ob v (fun _ => False) := by
    rcases hnew with ⟨ps, e1, e2⟩ | ⟨e1, e2⟩
    · exact .inl ⟨ps, e1, e2.mono hle0⟩
    · exact .inr ⟨e1, (e2.mono (XK_stays k) (Loc.le_refl σ) fun g hg => hg.elim).zone rfl rfl⟩
  have hbox : BoxRel D ((S.bx [(b, .fam k (setE es key ob) out')]).env D M w0 ⟨σ.f, σ.zw, σ.zm, setN σ.φ b (σ.φ b)⟩ ν) w' b (.fam k (setE es key ob) out') := by
    have hnd : ((setE es key ob).map (·.1)).Nodup ∧ (setE es key ob).length = vs'.length := by
      cases hfi : (es.map (·.1)).findIdx? (· == key) with
      | none =>
        rw [hfi] at hf hvs
        obtain ⟨f1, f2, f3, f4⟩ := hf
        rw [f2, hvs, List.map_append, List.nodup_append]
        refine ⟨⟨q4, by simp, fun a ha c hc => ?_⟩, by simp [q5]⟩
        simp only [List.map_cons, List.map_nil, List.mem_singleton] at hc
        subst hc
        exact fun e => f4 (e ▸ ha)
      | some i =>
        rw [hfi] at hf hvs
        obtain ⟨f0, ⟨o1, f1, f2⟩, f3, f4⟩ := hf
        rw [f3, hvs, List.map_set, List.set_getElem?_self' (by rw [List.getElem?_map, f1]; rfl)]
        exact ⟨q4, by simp [q5]⟩
    refine ⟨fd, hfd, vs', setN Fs i0 (fun _ => False), by rw [cont_map hrow]; exact hm, hnd.1, hnd.2, fun g hg' => ?_, fun g hg' => ?_, fun x ps e => ?_, fun i key' ob' v' hi hv => ?_, fun i g hg' => ?_, fun i j g h1 h2 => ?_⟩
    · have hg2 : setN σ.φ b (σ.φ b) b g := hg'
      rw [setN_same] at hg2
      exact Nat.lt_of_lt_of_le (q6 g hg2) hg.size
    · show setN σ.φ b (σ.φ b) b g
      rw [setN_same]
      exact q7 g hg'
    · rw [← hout' x ps e]; exact has_set
    · cases hfi : (es.map (·.1)).findIdx? (· == key) with
      | none =>
        have hi0 : i0 = es.length := by rw [hi00, hfi]
        rw [hfi] at hf hvs
        obtain ⟨f1, f2, f3, f4⟩ := hf
        rw [f2] at hi
        rw [hvs] at hv
        by_cases hlt : i < es.length
        · rw [List.getElem?_append_left hlt] at hi
          rw [List.getElem?_append_left (by omega)] at hv
          rw [setN_other _ _ (by omega)]
          exact hold2 i key' ob' v' (fun e => f4 (List.mem_map.2 ⟨_, List.mem_of_getElem? hi, e⟩)) hi hv
        · have he : i = es.length := by
            have := (List.getElem?_eq_some_iff.1 hi).1
            simp at this; omega
          rw [he, List.getElem?_append_right (Nat.le_refl _), Nat.sub_self] at hi
          rw [he, List.getElem?_append_right (by omega), show es.length - vs.length = 0 from by omega] at hv
          simp only [List.getElem?_cons_zero, Option.some.injEq, Prod.mk.injEq] at hi hv
          obtain ⟨rfl, rfl⟩ := hi
          subst hv
          rw [he, ← hi0, setN_same]
          exact hnew2
      | some j =>
        have hi0 : i0 = j := by rw [hi00, hfi]
        rw [hfi] at hf hvs
        obtain ⟨f0, ⟨o1, f1, f2⟩, f3, f4⟩ := hf
        rw [f3] at hi
        rw [hvs] at hv
        by_cases hij : i = j
        · subst hij
          rw [List.getElem?_set_self f0] at hi
          rw [List.getElem?_set_self (by omega)] at hv
          simp only [Option.some.injEq, Prod.mk.injEq] at hi hv
          obtain ⟨rfl, rfl⟩ := hi
          subst hv
          rw [← hi0, setN_same]
          exact hnew2
        · rw [List.getElem?_set_ne (fun e => hij e.symm)] at hi hv
          rw [setN_other _ _ (by omega)]
          exact hold2 i key' ob' v' (fun e => by subst e; exact hij (nodup_idx q4 hi f1)) hi hv
    · show setN σ.φ b (σ.φ b) b g ∧ ¬ IsCont D fd (S.env D M w0 σ ν) b g
      rw [setN_same]
      by_cases hii : i = i0
      · rw [hii, setN_same] at hg'; exact hg'.elim
      · rw [setN_other _ _ hii] at hg'
        exact q10 i g hg'
    · by_cases hii : i = i0
      · rw [hii, setN_same] at h1; exact h1.elim
      · by_cases hjj : j = i0
        · rw [hjj, setN_same] at h2; exact h2.elim
        · rw [setN_other _ _ hii] at h1
          rw [setN_other _ _ hjj] at h2
          exact q11 i j g h1 h2
  obtain ⟨r1, r2⟩ := RR.fam (S' := S.bx [(b, .fam k (setE es key ob) out')]) hR hbx (old := []) (by simp) S_upd (bx_np _ S) (F := σ.φ b) (fun g h => .inl h) (w' := w') hbox ⟨some (σ b), hg, fun g e => by
    simp only [Option.some.injEq] at e; rw [← e]; exact hcb⟩
  unfold Lands
  exact ⟨_, ν, r1, hA.mono r2 (bx_slot _ S).1 (bx_slot _ S).2, undef_rel⟩
theorem sound_update (t : TypeId) (x y z : Operand) : Sound P D (oUpdate P D t x y z) (fun ρ => do Instr.mapUpdate t (ρ x) (ρ y) (ρ z); pure .skip) := by
  intro S r l h hps M w0 a w ⟨σ, ν, hR, hA⟩
  unfold oUpdate at h
  obtain ⟨av, l0, hav, h⟩ := rdA_run h
  split at h
  case h_2 => simp at h
  rename_i b
  obtain ⟨_, hal, hxv⟩ := evalA_rel hA hav
  simp only [List.cons.injEq, and_true] at hxv
  have hxv : a.eval x = .map (some (σ b)) := hxv
  obtain ⟨kav, l1, hkav, h⟩ := rdA_run h
  have hkr := evalA_rel hA hkav
  obtain ⟨vav, l2, hvav, h⟩ := rdA_run h
  have hvr := evalA_rel hA hvav
  split at h
  case h_2 => simp at h
  rename_i kps vps hkps hvps
  obtain ⟨l3, h⟩ := box_run h
  split at h
  case h_2 => simp at h
  rename_i k es out hbx
  split at h
  case h_2 => simp at h
  rename_i fd hfd
  generalize hff : (famFits P D fd t && ((fd.kagg == isAggA kav) && (fd.vagg == isAggA vav))) = ff at h
  cases ff <;> simp only [cond_true, cond_false, run_fail] at h
  simp only [Bool.and_eq_true, beq_iff_eq] at hff
  obtain ⟨hrow, ht, hvagg, _⟩ := famFits_spec hff.1
  split at h
  case h_2 => simp at h
  rename_i key hkey
  have hval := val_parts hvps hvr
  rw [← hff.2.2] at hval
  have fin : ∀ {w' : World}, (Instr.mapUpdate t (a.eval x) (a.eval y) (a.eval z)).run P w = .ok () w' → Lands M w0 S a r undef w' → UpTo P (Lands M w0 S a r) ((do Instr.mapUpdate t (a.eval x) (a.eval y) (a.eval z); pure Next.skip : Sem Next).run P w) := by
    intro w' h1 h2
    simp only [Sem.run_bind, h1, Result.andThen_ok, Sem.run_pure, UpTo]
    exact h2
  generalize hz : Nat.beq fd.n 0 = bz at h
  cases bz <;> simp only [cond_true, cond_false] at h
  · obtain ⟨⟨ob, ids⟩, l4, l5, hi, h⟩ := bind_run h
    simp only [run_ret] at h
    obtain ⟨rfl, _⟩ := h
    have hK : KeyT P fd.kt fd.kagg fd.ksh := hps _ (by simp)
    have hk : keyOK fd.ksh key = true := hps (keyOK fd.ksh key = true) (by simp)
    have hout : ∀ x ps, out = some (x, ps) → key = x := by
      intro x ps e
      subst e
      exact hps (key = x) (by simp [outDuty])
    obtain ⟨w', h1, h2⟩ := update_lands (P := P) (out' := some (key, vps)) (ob := ob) hR hA hbx hfd hrow ht hK hk (v := a.eval z) hout (fun x ps e => by simp only [Option.some.injEq, Prod.mk.injEq] at e; exact e.1) (.inl ⟨vps, rfl, hval⟩)
      (qs := [KeyT P fd.kt fd.kagg fd.ksh, keyOK fd.ksh key = true] ++ outDuty key out)
    refine fin ?_ h2
    rw [hxv, key_eval hkps hkey hk hkr hff.2.1]
    exact h1
  · have hn0 := Nat.eq_of_beq_eq_true hz
    split at h
    case h_2 => simp at h
    obtain ⟨⟨ob, ids⟩, l4, l5, hi, h⟩ := bind_run h
    simp only at h
    split at h
    case h_2 => simp at h
    rename_i qs hqs
    split at h
    case h_2 => simp at h
    rename_i xs hxs hbxs
    simp only [run_ret] at h
    obtain ⟨rfl, _⟩ := h
    have hK : KeyT P fd.kt fd.kagg fd.ksh := hps _ (by simp)
    have hk : keyOK fd.ksh key = true := hps (keyOK fd.ksh key = true) (by simp)
    have hxq : AllQ xs := fun p hp => hps p (by simp [hp])
    have hobj : ObjRel D (XK D k) fd σ w ob (a.eval z) (fun _ => False) := by
      refine ⟨⟨σ.f, σ.zw, σ.zm, σ.φ⟩, ν, rfl, rfl, ?_, by rw [hbxs, hn0]; rfl, (fun i s hs => by rw [hbxs] at hs; simp at hs), (fun i j s t g hij hi => by rw [hbxs] at hi; simp at hi)⟩
      have hren : RenF (fun _ => none) (S.env D M w0 σ ν) (ienv ⟨σ.f, σ.zw, σ.zm, σ.φ⟩ ν fd.n) := ⟨(fun b c h => by cases h), (fun b c h => by cases h), (fun b c h => by cases h), fun g hg => ⟨hg, rfl⟩⟩
      have h1 := hval.ren hren hqs
      have hid : Ren [] (ienv (⟨σ.f, σ.zw, σ.zm, σ.φ⟩ : Loc) ν fd.n) (ienv ⟨σ.f, σ.zw, σ.zm, σ.φ⟩ ν fd.n) := ⟨(fun b c h => by cases h), (fun b c h => by cases h), (fun b c h => by cases h), (fun b c h => by cases h), (fun b h => by cases h), rfl, rfl, ⟨rfl, rfl⟩⟩
      cases hagg : fd.vagg with
      | true => rw [hagg] at h1; obtain ⟨cs, e, hp⟩ := h1; exact ⟨cs, e, fitPs_sound hid hxs hxq hp⟩
      | false => rw [hagg] at h1; exact ⟨h1.1, fitPs_sound hid hxs hxq h1.2⟩
    obtain ⟨w', h1, h2⟩ := update_lands (P := P) (out' := none) (ob := ob) hR hA hbx hfd hrow ht hK hk (v := a.eval z) (fun x ps e => by cases e) (fun x ps e => by cases e) (.inr ⟨(fun ps e => by cases e), hobj⟩)
      (qs := [KeyT P fd.kt fd.kagg fd.ksh, keyOK fd.ksh key = true] ++ xs)
    refine fin ?_ h2
    rw [hxv, key_eval hkps hkey hk hkr hff.2.1]
    exact h1
theorem sound_delete (x y : Operand) (t u ty : TypeId) : Sound P D (oDelete P D x y t) (fun ρ => valOf (Builtin.delete_ #[t, u] ty #[ρ x, ρ y])) := by
  intro S r l h hps M w0 a w ⟨σ, ν, hR, hA⟩
  unfold oDelete at h
  obtain ⟨av, l0, hav, h⟩ := rdA_run h
  split at h
  case h_2 => simp at h
  rename_i b
  obtain ⟨_, hal, hxv⟩ := evalA_rel hA hav
  simp only [List.cons.injEq, and_true] at hxv
  have hxv : a.eval x = .map (some (σ b)) := hxv
  obtain ⟨kav, l1, hkav, h⟩ := rdA_run h
  have hkr := evalA_rel hA hkav
  split at h
  case h_2 => simp at h
  rename_i kps hkps
  obtain ⟨l3, h⟩ := box_run h
  split at h
  case h_2 => simp at h
  rename_i k es out hbx
  split at h
  case h_2 => simp at h
  rename_i fd hfd
  generalize hff : (famFits P D fd t && (fd.kagg == isAggA kav)) = ff at h
  cases ff <;> simp only [cond_true, cond_false, run_fail] at h
  simp only [Bool.and_eq_true, beq_iff_eq] at hff
  obtain ⟨hrow, ht, hvagg, _⟩ := famFits_spec hff.1
  split at h
  case h_2 => simp at h
  rename_i key hkey
  simp only [run_ret] at h
  obtain ⟨rfl, _⟩ := h
  have hK : KeyT P fd.kt fd.kagg fd.ksh := hps _ (by simp)
  have hk : keyOK fd.ksh key = true := hps (keyOK fd.ksh key = true) (by simp)
  have hout : ∀ x ps, out = some (x, ps) → key = x := by
    intro x ps e
    subst e
    exact hps (key = x) (by simp [outDuty])
  have hold := hR.boxes b
  rw [hbx] at hold
  obtain ⟨fd', hfd', vs, Fs, q3, q4, q5, q6, q7, q8, q9, q10, q11⟩ := hold
  rw [hfd] at hfd'
  simp only [Option.some.injEq] at hfd'
  subst hfd'
  rw [cont_map hrow] at q3
  obtain ⟨w', vs', hrun, hg, hm, hvs⟩ := delete_run (P := P) (u := u) (ty := ty) q3 ht hK hk
  refine upTo_val (v := .tuple #[]) (w' := w') (by rw [hxv, key_eval hkps hkey hk hkr hff.2]; exact hrun) ?_
  have hcb : σ.φ b (σ b) := q7 _ (by unfold IsCont; rw [hrow]; rfl)
  have hf := find_ks (key := key) es
  let tr : Nat → Nat := fun i => match (es.map (·.1)).findIdx? (· == key) with | some j => if i < j then i else i + 1 | none => i
  have htr : ∀ (i : Nat) key' ob' v', (delE es key)[i]? = some (key', ob') → vs'[i]? = some v' → key' ≠ key ∧ es[tr i]? = some (key', ob') ∧ vs[tr i]? = some v' := by
    intro i key' ob' v' hi hv
    cases hfi : (es.map (·.1)).findIdx? (· == key) with
    | none =>
      have ht : tr i = i := by show (match (es.map (·.1)).findIdx? (· == key) with | some j => if i < j then i else i + 1 | none => i) = _; rw [hfi]
      rw [hfi] at hf hvs
      obtain ⟨f1, f2, f3, f4⟩ := hf
      rw [f3] at hi
      rw [hvs] at hv
      rw [ht]
      exact ⟨fun e => f4 (List.mem_map.2 ⟨_, List.mem_of_getElem? hi, e⟩), hi, hv⟩
    | some j =>
      have ht : tr i = if i < j then i else i + 1 := by show (match (es.map (·.1)).findIdx? (· == key) with | some j => if i < j then i else i + 1 | none => i) = _; rw [hfi]
      rw [hfi] at hf hvs
      obtain ⟨f0, ⟨o1, f1, f2⟩, f3, f4⟩ := hf
      rw [f4, List.getElem?_eraseIdx] at hi
      rw [hvs, List.getElem?_eraseIdx] at hv
      rw [ht]
      by_cases hij : i < j
      · rw [if_pos hij] at hi hv ⊢
        exact ⟨fun e => by subst e; have := nodup_idx q4 hi f1; omega, hi, hv⟩
      · rw [if_neg hij] at hi hv ⊢
        exact ⟨fun e => by subst e; have := nodup_idx q4 hi f1; omega, hi, hv⟩
  have hinj : ∀ i j, tr i = tr j → i = j := by
    intro i j h
    cases hfi : (es.map (·.1)).findIdx? (· == key) with
    | none =>
      have h1 : (match (es.map (·.1)).findIdx? (· == key) with | some j => if i < j then i else i + 1 | none => i) = (match (es.map (·.1)).findIdx? (· == key) with | some k => if j < k then j else j + 1 | none => j) := h
      rw [hfi] at h1
      exact h1
    | some k =>
      have h1 : (match (es.map (·.1)).findIdx? (· == key) with | some j => if i < j then i else i + 1 | none => i) = (match (es.map (·.1)).findIdx? (· == key) with | some k => if j < k then j else j + 1 | none => j) := h
      rw [hfi] at h1
      simp only at h1
      split at h1 <;> split at h1 <;> omega
  have hbox : BoxRel D ((S.bx [(b, .fam k (delE es key) none)]).env D M w0 ⟨σ.f, σ.zw, σ.zm, setN σ.φ b (σ.φ b)⟩ ν) w' b (.fam k (delE es key) none) := by
    have hnd : ((delE es key).map (·.1)).Nodup ∧ (delE es key).length = vs'.length := by
      cases hfi : (es.map (·.1)).findIdx? (· == key) with
      | none =>
        rw [hfi] at hf hvs
        obtain ⟨f1, f2, f3, f4⟩ := hf
        rw [f3, hvs]
        exact ⟨q4, q5⟩
      | some i =>
        rw [hfi] at hf hvs
        obtain ⟨f0, ⟨o1, f1, f2⟩, f3, f4⟩ := hf
        rw [f4, hvs]
        refine ⟨?_, by rw [List.length_eraseIdx, List.length_eraseIdx, q5]⟩
        exact q4.sublist (List.Sublist.map _ (List.eraseIdx_sublist _ _))
    refine ⟨fd, hfd, vs', fun i => Fs (tr i), by rw [cont_map hrow]; exact hm, hnd.1, hnd.2, fun g hg' => ?_, fun g hg' => ?_, (fun x ps e => by cases e), fun i key' ob' v' hi hv => ?_, fun i g hg' => ?_, fun i j g h1 h2 => hinj i j (q11 _ _ g h1 h2)⟩
    · have hg2 : setN σ.φ b (σ.φ b) b g := hg'
      rw [setN_same] at hg2
      exact Nat.lt_of_lt_of_le (q6 g hg2) hg.size
    · show setN σ.φ b (σ.φ b) b g
      rw [setN_same]
      exact q7 g hg'
    · obtain ⟨h1, h2, h3⟩ := htr i key' ob' v' hi hv
      rcases q9 _ _ _ _ h2 h3 with ⟨ps, e1, _⟩ | ⟨_, e2⟩
      · exact (h1 (hout _ _ e1).symm).elim
      · refine .inr ⟨(fun ps e => by cases e), ?_⟩
        refine (e2.mono (XK_stays k) (Loc.le_refl σ) fun g hg' => hg.block g (q6 g (q10 _ g hg').1) (fun e => ?_)).zone rfl rfl
        simp only [Option.some.injEq] at e
        exact (q10 _ g hg').2 (by unfold IsCont; rw [hrow]; exact e.symm)
    · show setN σ.φ b (σ.φ b) b g ∧ ¬ IsCont D fd (S.env D M w0 σ ν) b g
      rw [setN_same]
      exact q10 _ g hg'
  obtain ⟨r1, r2⟩ := RR.fam (S' := S.bx [(b, .fam k (delE es key) none)]) hR hbx (old := []) (by simp) S_upd (bx_np _ S) (F := σ.φ b) (fun g h => .inl h) (w' := w') hbox ⟨some (σ b), hg, fun g e => by
    simp only [Option.some.injEq] at e; rw [← e]; exact hcb⟩
  unfold Lands
  exact ⟨_, ν, r1, hA.mono r2 (bx_slot _ S).1 (bx_slot _ S).2, undef_rel⟩
theorem sound_makeMap (nid : Nat) (t : TypeId) (o : Option Operand) : Sound P D (oMakeMap P D nid t o) (fun ρ => do pure (.value (← Instr.makeMap t (o.map ρ)))) := by
  intro S r l h hps M w0 a w ⟨σ, ν, hR, hA⟩
  unfold oMakeMap at h
  split at h
  · simp at h
  obtain ⟨l1, h⟩ := box_run h
  split at h
  case h_2 => simp at h
  rename_i hun
  split at h
  case h_2 => simp at h
  rename_i k hk
  split at h
  case h_2 => simp at h
  rename_i fd hfd
  generalize hff : famFits P D fd t = ff at h
  cases ff <;> simp only [cond_true, cond_false, run_fail] at h
  simp only [run_ret] at h
  obtain ⟨rfl, _⟩ := h
  obtain ⟨hrow, ht, _⟩ := famFits_spec hff
  have hrun : (Instr.makeMap t none).run P w = .ok (.map (some w.heap.size)) (w.alloc (.map #[] 0)) := by
    simp [Instr.makeMap]
  refine upTo_val (v := .map (some w.heap.size)) (w' := w.alloc (.map #[] 0)) hrun ?_
  unfold Lands
  simp only [bx_one]
  let σ' : Loc := ⟨fun i => if i = nid then w.heap.size else σ.f i, σ.zw, σ.zm, setN σ.φ nid (fun g => g = w.heap.size)⟩
  have hσn : σ' nid = w.heap.size := by show (if nid = nid then _ else _) = _; rw [if_pos rfl]
  have hσo : ∀ c, c ≠ nid → σ' c = σ c := fun c h => by show (if c = nid then _ else _) = _; rw [if_neg h]
  have hle : (S.env D M w0 σ ν).le ((S.upd (.box nid (.fam k [] none))).env D M w0 σ' ν) := env_le_box hun hσo (fun _ _ => rfl) (fun g hg => ⟨hg, rfl⟩)
  have hFp : ∀ g, Fp D ((S.upd (.box nid (.fam k [] none))).env D M w0 σ' ν) nid ((S.upd (.box nid (.fam k [] none))).box nid) g → g = w.heap.size := by
    intro g hg
    rw [upd_box_same] at hg
    have : setN σ.φ nid (fun g => g = w.heap.size) nid g := hg
    rwa [setN_same] at this
  refine ⟨σ', ν, hR.step hle (· = nid) ?_ ?_ ?_ ?_ (hR.kept.alloc _) rfl (hR.zk_grown (World.grownBy_alloc _ _ none) (by simp)) ?_ (fun b g _ h _ => hR.zd b g h) (fun g h => .inl h) (fun c hc => setN_other _ _ hc), hA.mono hle rfl rfl, ?_⟩
  · rintro b rfl
    rw [upd_box_same]
    refine ⟨fd, hfd, [], fun _ _ => False, ?_, by simp, rfl, fun g hg => ?_, fun g hg => ?_, (fun x ps e => by cases e), fun i key ob v hi => by simp at hi, fun i g hg => hg.elim, fun i j g h => h.elim⟩
    · rw [cont_map hrow]
      refine ⟨#[], 0, ?_, rfl, rfl, ⟨by simp, by simp⟩, by simp⟩
      show (w.alloc _).heap[σ' b]? = _
      rw [hσn]
      exact Go.heap_alloc_new w _
    · have : setN σ.φ b (fun g => g = w.heap.size) b g := hg
      rw [setN_same] at this
      subst this; simp
    · show setN σ.φ b (fun g => g = w.heap.size) b g
      rw [setN_same]
      have h2 : IsCont D fd ((S.upd (.box b (.fam k [] none))).env D M w0 σ' ν) b g := hg
      unfold IsCont at h2
      rw [hrow] at h2
      rw [← h2]; exact hσn
  · intro b hb
    exact .inl ⟨upd_box_other S _ hb, fun g hg => Go.heap_alloc_old w _ (blk_lt hR hg)⟩
  · rintro b b' g rfl hne h1 h2
    have h1' := hFp g h1
    rw [upd_box_other S _ (Ne.symm hne)] at h2
    have h3 : Fp D (S.env D M w0 σ ν) b' (S.box b') g := (fp_same (E := S.env D M w0 σ ν) (F := (S.upd (.box b (.fam k [] none))).env D M w0 σ' ν) (hσo b' (Ne.symm hne)) rfl (setN_other _ _ (Ne.symm hne))).1 h2
    have := blk_lt hR h3
    omega
  · rintro b g rfl h
    have h1' := hFp g h
    exact .inl (by have := hR.kept.size; omega)
  · rintro b g rfl h hz
    have h1' := hFp g h
    have := (hR.zk g hz).1
    omega
  · refine ⟨rfl, ?_, ?_⟩
    · show ((S.upd (.box nid (.fam k [] none))).box nid).al
      rw [upd_box_same]; trivial
    · show [Value.map (some w.heap.size)] = [Value.map (some (σ' nid))]
      rw [hσn]
theorem sound_lenM (x : Operand) (t ty : TypeId) : Sound P D (oLenM P D x t) (fun ρ => valOf (Builtin.len_ #[t] ty #[ρ x])) := by
  intro S r l h hps M w0 a w hRA
  unfold oLenM at h
  obtain ⟨av, l0, hav, h⟩ := rdA_run h
  split at h
  · rename_i b
    split at h
    case h_2 => simp at h
    rename_i kt vt ht
    obtain ⟨l1, h⟩ := box_run h
    split at h
    case h_2 => simp at h
    rename_i k es out hbx
    split at h
    case h_2 => simp at h
    rename_i fd hfd
    generalize hrow : fd.row = rw0 at h
    cases rw0 <;> simp only [cond_true, cond_false, run_fail] at h
    have hr := ok1_run h
    subst hr
    obtain ⟨σ, ν, hR, hA⟩ := hRA
    obtain ⟨_, hal, hxv⟩ := evalA_rel hA hav
    simp only [List.cons.injEq, and_true] at hxv
    have hxv : a.eval x = .map (some (σ b)) := hxv
    have hold := hR.boxes b
    rw [hbx] at hold
    obtain ⟨fd', hfd', vs, Fs, q3, q4, q5, _⟩ := hold
    rw [hfd] at hfd'
    simp only [Option.some.injEq] at hfd'
    subst hfd'
    rw [cont_map hrow] at q3
    obtain ⟨ens, clock, h1, h2, h3, _⟩ := q3
    have hel : ens.size = es.length := by
      have := congrArg List.length h2
      simpa using this
    have h1 : w.heap[σ b]? = some (.map ens clock) := h1
    refine upTo_val (w' := w) (v := .int .i64 es.length) ?_ (lands_pure hR hA ⟨rfl, rfl⟩)
    rw [hxv]
    simp [Builtin.len_, run_underlying ht, MapKept.run_getObj_map h1, hel, Result.andThen]
    rfl
  · rename_i b
    obtain ⟨l1, h⟩ := box_run h
    split at h
    · rename_i e ll hbx
      split at h
      case h_2 => simp at h
      rename_i e' ht
      have hr := ok1_run h
      subst hr
      obtain ⟨σ, ν, hR, hA⟩ := hRA
      obtain ⟨hone, hal, h1c, hv⟩ := evalA_rel hA hav
      simp only [List.cons.injEq, and_true] at hv
      have hv' : a.eval x = ν b := hv
      have hb := hR.boxes b
      rw [hbx] at hb
      obtain ⟨n, xs, hown, hp, _⟩ := hb
      have hown' : w.ownsL 0 e 1 (ν b) n xs := hown
      have hn : ll.length = n := by have := hown'.1; rw [hp.2, List.length_map] at this; simpa using this
      subst hn
      refine upTo_val (w' := w) (v := .int .i64 ll.length) ?_ (lands_pure hR hA ⟨rfl, rfl⟩)
      rw [hv']
      rcases hown'.2 with ⟨hνe, h0⟩ | ⟨g, cap, cur, hνe, _⟩
      · rw [hνe, run_len_slice ht, h0]
      · rw [hνe, run_len_slice ht]
    · exact sound_lenR x t ty S r _ h hps M w0 a w hRA
  · exact sound_lenR x t ty S r _ h hps M w0 a w hRA
end
end Go.Abs
namespace Go.Abs
open Go.RowKit
section
variable {P : Program} {D : Dom}
theorem c1Of_rel {E : Env} {p : Part D.τ} {c : C1} {vs : List Value} (h : c1Of p = some c) (hp : PartRel D E p vs) : ∃ v, vs = [v] ∧ C1Rel E c v := by
  unfold c1Of at h
  split at h
  · cases h; exact ⟨_, hp, rfl⟩
  · cases h; exact ⟨_, hp, rfl⟩
  · cases h
    obtain ⟨h1, h2, h3⟩ := hp
    exact ⟨_, h3, h1, h2, rfl⟩
  · cases h
theorem c1sOf_rel {E : Env} : ∀ {ps : List (Part D.τ)} {cs : List C1} {vs : List Value}, c1sOf ps = some cs → PartsRel D E ps vs → C1sRel E cs vs
  | [], cs, vs, h, hp => by
    cases h
    exact hp
  | p :: ps, cs, vs, h, hp => by
    unfold c1sOf at h
    split at h
    · rename_i c hc
      split at h
      · rename_i cs' hcs
        cases h
        obtain ⟨c1, c2, rfl, h1, h2⟩ := hp
        obtain ⟨v, rfl, hv⟩ := c1Of_rel hc h1
        exact ⟨v, c2, rfl, hv, c1sOf_rel hcs h2⟩
      · cases h
    · cases h
theorem c1P_rel {E : Env} : ∀ {cs : List C1} {vs : List Value}, C1sRel E cs vs → PartsRel D E (cs.map c1P) vs
  | [], vs, h => h
  | .s x :: cs, vs, h => by
    obtain ⟨v, us, rfl, h1, h2⟩ := h
    exact ⟨[v], us, rfl, by rw [show v = _ from h1]; rfl, c1P_rel h2⟩
  | .i k n :: cs, vs, h => by
    obtain ⟨v, us, rfl, h1, h2⟩ := h
    exact ⟨[v], us, rfl, by rw [show v = _ from h1]; rfl, c1P_rel h2⟩
  | .o b :: cs, vs, h => by
    obtain ⟨v, us, rfl, ⟨h1, h1b, h1c⟩, h2⟩ := h
    exact ⟨[v], us, rfl, ⟨h1, h1b, by rw [h1c]⟩, c1P_rel h2⟩
theorem hasO_pos : ∀ {cs : List C1}, hasO cs = true → 1 ≤ cs.length
  | [], h => by cases h
  | _ :: _, _ => by simp
theorem one_row {n k : Nat} {xs : List Value} (h : xs.length = n * k) (h' : xs.length = k) (hk : 1 ≤ k) : n = 1 := by
  have : n * k = 1 * k := by omega
  exact Nat.eq_of_mul_eq_mul_right (by omega) this
theorem sound_build1 (nid : Nat) (t : TypeId) (len : Nat) (parts : Array (Nat × Operand)) : Sound P D (oBuild1 P D nid t len parts.toList) (fun ρ => do pure (.value (← Instr.buildSlice t len (parts.map fun (i, x) => (i, ρ x))))) := by
  intro S r l h hps M w0 a w hRA
  have back : ∀ {l'}, (oBuildC P D nid t len parts.toList).run S = some (r, l') → UpTo P (Lands M w0 S a r) (((do pure (.value (← Instr.buildSlice t len (parts.map fun (i, x) => (i, a.eval x)))) : Sem Next)).run P w) := fun h => sound_buildC nid t len parts S r _ h hps M w0 a w hRA
  unfold oBuild1 at h
  generalize hpl : parts.toList = pl at h back
  split at h
  · rename_i x
    obtain ⟨av, l0, hav, h⟩ := rdA_run h
    split at h
    · rename_i ps
      split at h
      · rename_i cs hcs
        cases hO : hasO cs <;> simp only [hO, cond_true, cond_false] at h
        · exact back h
        · have hpos := hasO_pos hO
          split at h
          · rename_i e ht
            split at h
            · rename_i n hsz
              generalize hb : (Nat.beq len 1 && (Nat.beq n cs.length && (Nat.ble n 16777216 && zeroFits P e n))) = bb at h
              cases bb <;> simp only [cond_true, cond_false, run_fail] at h
              simp only [Bool.and_eq_true] at hb
              obtain ⟨l1, h⟩ := box_run h
              split at h
              · rename_i hun
                simp only [run_ret] at h
                obtain ⟨rfl, _⟩ := h
                have hl1 := Nat.eq_of_beq_eq_true hb.1
                subst hl1
                have hn := Nat.eq_of_beq_eq_true hb.2.1
                subst hn
                have h2 := Nat.le_of_ble_eq_true hb.2.2.1
                obtain ⟨σ, ν, hR, hA⟩ := hRA
                obtain ⟨cells, hv, hps'⟩ := evalA_rel hA hav
                have hc1 := c1sOf_rel hcs hps'
                have hlen := hc1.len
                have hfl : flat [a.eval x] = cells := by rw [hv]; simp [flat, Value.cells]
                have hcz : ∀ v ∈ [a.eval x], v.cells.size = cs.length := fun v hv' => by rw [List.mem_singleton.1 hv', hv]; simp [Value.cells, hlen]
                have hparts : (parts.map fun (p : Nat × Operand) => (p.1, a.eval p.2)).toList = ((List.range [a.eval x].length).map (0 + ·)).zip [a.eval x] := by
                  rw [Array.toList_map, hpl]
                  rfl
                have hrun := run_buildSliceS (P := P) (w := w) (parts := parts.map fun (p : Nat × Operand) => (p.1, a.eval p.2)) ht hsz hb.2.2.2 hpos (by simpa using h2) hparts hcz
                refine upTo_val hrun (lands_dynE (old := []) (row := none) (p := .rec1 cs) (xs := flat [a.eval x]) (n := 1) hR hA hun ?_ (by rw [hfl]; exact hc1) rfl (World.grownBy_alloc _ _ _) (by simp) (fun g hg => .inl ?_))
                · show (w.alloc _).ownsL 0 e cs.length _ 1 _
                  rw [hfl]
                  refine ⟨by rw [Nat.one_mul]; exact hlen, .inr ⟨w.heap.size, 1, _, rfl, Nat.zero_le _, Go.heap_alloc_new w _, Nat.le_refl _, ?_, ?_, ?_⟩⟩
                  · unfold maxLen; omega
                  · show 1 * cs.length ≤ cells.toArray.size
                    rw [List.size_toArray, hlen]; omega
                  · exact List.take_of_length_le (by rw [List.toList_toArray, hlen]; omega)
                · simp [Value.ownBlock] at hg; omega
              · simp at h
            · simp at h
          · simp at h
      · exact back h
    · exact back h
  · exact back h
theorem sound_append1 (nid : Nat) (x y : Operand) (t u ty : TypeId) : Sound P D (oAppend1 P D nid x y t u) (fun ρ => valOf (Builtin.append_ #[t, u] ty #[ρ x, ρ y])) := by
  intro S r l h hps M w0 a w hRA
  unfold oAppend1 at h
  obtain ⟨bv, l0, hbv, h1⟩ := rdA_run h
  clear h
  split at h1
  · rename_i b
    obtain ⟨l1, h⟩ := box_run h1
    clear h1
    split at h
    · rename_i e' cs hbx
      split at h
      · rename_i e ht
        split at h
        · rename_i n hsz
          generalize hb : (Nat.beq t u && (zeroFits P e n && (Nat.beq e e' && (Nat.beq n cs.length && Nat.ble 1 n)))) = bb at h
          cases bb <;> simp only [cond_true, cond_false, run_fail] at h
          simp only [Bool.and_eq_true] at hb
          have htu := Nat.eq_of_beq_eq_true hb.1
          subst htu
          have hee := Nat.eq_of_beq_eq_true hb.2.2.1
          subst hee
          have hn := Nat.eq_of_beq_eq_true hb.2.2.2.1
          subst hn
          have hpos := Nat.le_of_ble_eq_true hb.2.2.2.2
          obtain ⟨av, l2, hav, h2⟩ := rdA_run h
          clear h
          split at h2
          · obtain ⟨l3, h⟩ := box_run h2
            clear h2
            split at h
            · rename_i hun
              simp only [run_ret] at h
              obtain ⟨rfl, _⟩ := h
              have hbb : bytesOfT P e ≤ 140737488355328 := hps _ (by simp)
              obtain ⟨σ, ν, hR, hA⟩ := hRA
              have hx := evalA_rel hA hav
              have hxv : a.eval x = .slice none 0 0 := by have := hx.2; simpa [PartRel] using this
              obtain ⟨_, hal, h1c, hyv⟩ := evalA_rel hA hbv
              have hyv' : a.eval y = ν b := (List.cons.inj hyv).1
              have hbo := hR.boxes b
              rw [hbx] at hbo
              obtain ⟨m, xs, hown, hp, _⟩ := hbo
              have hown : w.ownsL 0 e cs.length (ν b) m xs := hown
              have hp' : C1sRel (S.env D M w0 σ ν) cs xs := hp
              have hlen := hp'.len
              have hm := one_row hown.1 hlen hpos
              subst hm
              rcases hown.2 with ⟨_, h0⟩ | ⟨g, cap, cur, hνe, _⟩
              · omega
              obtain ⟨v', w', hr, ho, hg, hgo⟩ := append_runS (P := P) (ty := ty) (w := w) (v := .slice none 0 0) (n := 0) (m := 1) (xs := []) (us := xs) (ao := some ⟨g, 0, none⟩) (cap' := cap) ht hsz hb.2.1 hpos (World.ownsL_nil _ _ _ _) (by rw [Nat.one_mul]; exact hlen) (fun u hu => hp'.oneCell u hu) (fun h => by cases h)
                (fun ad e j u hu => by
                  simp only [Option.some.injEq] at e
                  subst e
                  exact hown.cells (g := g) (by rw [hνe]; rfl) j u hu) (by omega) (by simpa using hbb)
              simp only [List.nil_append, Nat.zero_add] at ho
              refine upTo_val (v := v') (w' := w') (by rw [hxv, hyv', hνe]; exact hr) (lands_dynE (old := []) (row := none) (p := .rec1 cs) hR hA hun ho hp' (ownsL_one ho) hg (by simp) (fun g h' => .inl ?_))
              rcases hgo g h' with h'' | h''
              · exact h''
              · simp [Value.ownBlock] at h''
            · simp at h
          · simp at h2
        · simp at h
      · simp at h
    · exact sound_appendR nid x y t u ty S r _ h hps M w0 a w hRA
  · exact sound_appendR nid x y t u ty S r _ h1 hps M w0 a w hRA
theorem sound_len1 (x : Operand) (t ty : TypeId) : Sound P D (oLen1 P D x t) (fun ρ => valOf (Builtin.len_ #[t] ty #[ρ x])) := by
  intro S r l h hps M w0 a w hRA
  unfold oLen1 at h
  obtain ⟨av, l0, hav, h⟩ := rdA_run h
  split at h
  · rename_i b
    obtain ⟨l1, h⟩ := box_run h
    split at h
    · rename_i e' cs hbx
      split at h
      · rename_i e ht
        cases hbp : Nat.ble 1 cs.length <;> simp only [hbp, cond_true, cond_false, run_fail] at h
        have hpos := Nat.le_of_ble_eq_true hbp
        have hr := ok1_run h
        subst hr
        obtain ⟨σ, ν, hR, hA⟩ := hRA
        obtain ⟨_, hal, h1c, hv⟩ := evalA_rel hA hav
        have hv' : a.eval x = ν b := (List.cons.inj hv).1
        have hbo := hR.boxes b
        rw [hbx] at hbo
        obtain ⟨m, xs, hown, hp, _⟩ := hbo
        have hown : w.ownsL 0 e' cs.length (ν b) m xs := hown
        have hp' : C1sRel (S.env D M w0 σ ν) cs xs := hp
        have hm := one_row hown.1 hp'.len hpos
        subst hm
        rcases hown.2 with ⟨_, h0⟩ | ⟨g, cap, cur, hνe, _⟩
        · omega
        refine upTo_val (w' := w) ?_ (lands_pure hR hA rel_int)
        rw [hv', hνe]
        exact run_len_slice ht
      · simp at h
    · exact sound_lenM x t ty S r _ h hps M w0 a w hRA
  · exact sound_lenM x t ty S r _ h hps M w0 a w hRA
theorem sound_indexAddr1 (t : TypeId) (x y : Operand) : Sound P D (oIndexAddr1 P D t x y) (fun ρ => do pure (.value (← Instr.indexAt t (ρ x) (ρ y)))) := by
  intro S r l h hps M w0 a w hRA
  unfold oIndexAddr1 at h
  split at h
  · exact sound_indexAddrC t _ y S r _ h hps M w0 a w hRA
  · rename_i x' _
    obtain ⟨av, bv, l0, hav, hbv, h⟩ := pair_run h
    split at h
    · rename_i b kd lt i
      obtain ⟨l1, h⟩ := box_run h
      split at h
      · rename_i e' cs hbx
        split at h
        · rename_i e ht
          split at h
          · rename_i n hs
            cases hb : (Nat.beq n cs.length && Nat.ble 1 n) <;> simp only [hb, cond_true, cond_false, run_fail] at h
            simp only [Bool.and_eq_true] at hb
            have hn := Nat.eq_of_beq_eq_true hb.1
            subst hn
            have hpos := Nat.le_of_ble_eq_true hb.2
            have hr := ok1_run h
            subst hr
            have h0 : i = 0 := hps _ (by simp)
            subst h0
            obtain ⟨σ, ν, hR, hA⟩ := hRA
            obtain ⟨_, hal, h1c, hv⟩ := evalA_rel hA hav
            have hv' : a.eval x = ν b := (List.cons.inj hv).1
            have hbo := hR.boxes b
            rw [hbx] at hbo
            obtain ⟨m, xs, hown, hp, _⟩ := hbo
            have hown : w.ownsL 0 e' cs.length (ν b) m xs := hown
            have hp' : C1sRel (S.env D M w0 σ ν) cs xs := hp
            have hm := one_row hown.1 hp'.len hpos
            subst hm
            rcases hown.2 with ⟨_, h0⟩ | ⟨g, cap, cur, hνe, _⟩
            · omega
            refine upTo_val (w' := w) (v := .pointer (some ⟨g, 0, none⟩)) ?_ (lands_pure hR hA ⟨rfl, hal, g, by show (ν b).ownBlock = _; rw [hνe]; rfl, rfl⟩)
            rw [int_rel (evalA_rel hA hbv), hv', hνe]
            have := run_indexAt_slice (P := P) (b := g) (off := 0) (cap := cap) (n := 1) (k := kd) (i := 0) (w := w) ht hs (Int.le_refl _) (by omega)
            simpa using this
          · simp at h
        · simp at h
      · exact sound_indexAddrC t _ y S r _ h hps M w0 a w hRA
    · exact sound_indexAddrC t _ y S r _ h hps M w0 a w hRA
theorem sound_load1 (t : TypeId) (x : Operand) : Sound P D (oLoad1 P D t x) (fun ρ => do pure (.value (← Instr.loadAt t (ρ x)))) := by
  intro S r l h hps M w0 a w hRA
  unfold oLoad1 at h
  split at h
  · exact sound_loadC t _ S r _ h hps M w0 a w hRA
  · rename_i x' _
    obtain ⟨av, l0, hav, h1⟩ := rdA_run h
    clear h
    split at h1
    · rename_i b sh i off
      obtain ⟨l1, h⟩ := box_run h1
      clear h1
      split at h
      · rename_i e' cs hbx
        cases hsh : shEq sh [] <;> simp only [hsh, cond_true, cond_false, run_fail] at h
        have := shEq_eq hsh
        subst this
        split at h
        · rename_i n hsz
          split at h
          · rename_i p1 m p3 hsp
            split at h
            · rename_i v hm
              simp only [run_ret] at h
              obtain ⟨rfl, _⟩ := h
              obtain ⟨σ, ν, hR, hA⟩ := hRA
              obtain ⟨hone, hal, g, hg, hv⟩ := evalA_rel hA hav
              simp only [List.cons.injEq, and_true] at hv
              have hbo := hR.boxes b
              rw [hbx] at hbo
              obtain ⟨n', xs, hown, hp, _⟩ := hbo
              have hown : w.ownsL 0 e' cs.length (ν b) n' xs := hown
              have hp' : C1sRel (S.env D M w0 σ ν) cs xs := hp
              obtain ⟨d1, d2, d3, hd, k1, k2, r1, r2, r3⟩ := splitP_sound hsp (c1P_rel hp')
              refine land_load hR hA hm r2 (by rw [k2]; exact hsz) hv (fun j u hu => ?_)
              have h1 := row_get hd hu
              have h3 := hown.cells (g := g) hg _ _ h1
              rw [Addr.add_lit] at h3 ⊢
              rw [← h3]
              have e0 : rsz ([] : List FK) = 0 := rfl
              congr 2
              rw [e0]
              omega
            · simp at h
          · simp at h
        · simp at h
      · exact sound_loadC t _ S r _ h hps M w0 a w hRA
    · exact sound_loadC t _ S r _ h1 hps M w0 a w hRA
theorem sound_sliceE (Γ : Gam D) (nid : Nat) (dst : Option Tmp) (t : TypeId) (x : Operand) (lo hi : Option Operand) : Sound P D (oSliceE P D Γ nid dst t x lo hi) (fun ρ => do pure (.value (← Instr.sliceAt t (ρ x) (lo.map ρ) (hi.map ρ) none))) := by
  intro S r l h hps M w0 a w hRA
  unfold oSliceE at h
  cases he : endAt D Γ dst <;> simp only [he, cond_true, cond_false] at h
  · exact sound_sliceR Γ nid dst t x lo hi S r _ h hps M w0 a w hRA
  · split at h
    · rename_i y
      obtain ⟨av, l0, hav, h1⟩ := rdA_run h
      clear h
      split at h1
      · rename_i b
        split at h1
        · rename_i e ht
          split at h1
          · rename_i hsz
            obtain ⟨l1, h⟩ := box_run h1
            clear h1
            split at h
            · rename_i e' k il hbx
              obtain ⟨ay, l2, hay, h2⟩ := rdA_run h
              clear h
              split at h2
              · rename_i kd lt q
                have hr := ok1_run h2
                subst hr
                have h0 : 0 < il.length := hps _ (by simp)
                have h3 : q = il.length := hps _ (by simp)
                obtain ⟨σ, ν, hR, hA⟩ := hRA
                obtain ⟨hone, hal, h1c, hv⟩ := evalA_rel hA hav
                have hv' : a.eval x = ν b := (List.cons.inj hv).1
                have hbb := hR.boxes b
                rw [hbx] at hbb
                obtain ⟨n', xs, hown, hp, _⟩ := hbb
                simp only [PartRel] at hp
                subst hp
                have hown : w.ownsL 0 e' 1 (ν b) n' (il.map (Value.int k)) := hown
                have hn' : il.length = n' := by have := hown.1; simpa using this
                rcases hown.2 with ⟨_, hz⟩ | ⟨g, cap, cur, hνe, _, hcur, hnc, hcm, hcs, htk⟩
                · omega
                have hrun := run_slice_bnd (P := P) (ao := some ⟨g, 0, none⟩) (len := n') (cap := cap) (hi := none) (w := w) ht hsz (bnd_value (d := 0) hA hay) (Bnd.none (d := n')) (by omega) (by omega) (by omega)
                obtain ⟨o, ho⟩ : ∃ o, sliced (some ⟨g, 0, none⟩) q.toNat ((n' : Int).toNat) cap 1 = .slice (some ⟨g, o, none⟩) 0 (cap - q.toNat) := by
                  unfold sliced
                  by_cases hc : cap = q.toNat
                  · refine ⟨0, ?_⟩
                    rw [if_pos hc, Int.toNat_natCast, show n' - q.toNat = 0 from by omega]
                  · refine ⟨q.toNat, ?_⟩
                    rw [if_neg hc, Int.toNat_natCast, show n' - q.toNat = 0 from by omega]
                    simp [Addr.add_lit]
                refine upTo_val (w' := w) (v := .slice (some ⟨g, o, none⟩) 0 (cap - q.toNat)) ?_ (lands_pure hR hA ⟨rfl, _, _, _, rfl, _, _, rfl, Nat.zero_le _, by omega, (fun h => by cases h), fun i hi => by simp at hi⟩)
                rw [hv', hνe, ← ho]
                exact hrun
              · simp at h2
            · simp at h
          · simp at h1
        · simp at h1
      · simp at h1
    · simp at h
end
end Go.Abs

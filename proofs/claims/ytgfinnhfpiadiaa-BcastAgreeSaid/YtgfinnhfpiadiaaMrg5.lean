/- Several texts put together: AbsW AbsN AbsX AbsY. -/
import Derived.Test.YtgfinnhfpiadiaaMrg4
import Derived.MapKept
namespace Go.Abs
open Go.RowKit
theorem find_ks {key : Rec} : ∀ (es : List (Rec × Ob)), match (es.map (·.1)).findIdx? (· == key) with
    | some i => i < es.length ∧ (∃ ob, es[i]? = some (key, ob) ∧ getE es key = some ob) ∧ (∀ o, setE es key o = es.set i (key, o)) ∧ delE es key = es.eraseIdx i
    | none => getE es key = none ∧ (∀ o, setE es key o = es ++ [(key, o)]) ∧ delE es key = es ∧ key ∉ es.map (·.1)
  | [] => by simp [getE, setE, delE]
  | (k, p) :: es => by
    have ih := find_ks (key := key) es
    simp only [List.map_cons, List.findIdx?_cons]
    by_cases hk : k = key
    · subst hk
      simp [getE, setE, delE]
    · have hb : (k == key) = false := by simpa using hk
      simp only [hb, Bool.false_eq_true, if_false]
      cases hf : (es.map (·.1)).findIdx? (· == key) with
      | none =>
        rw [hf] at ih
        obtain ⟨h1, h2, h3, h4⟩ := ih
        refine ⟨by simp [getE, hk, h1], fun o => by simp [setE, hk, h2], by simp [delE, hk, h3], ?_⟩
        intro hm
        rcases List.mem_cons.1 hm with h | h
        · exact hk h.symm
        · exact h4 h
      | some i =>
        rw [hf] at ih
        obtain ⟨h0, ⟨ob, h1, h2⟩, h3, h4⟩ := ih
        exact ⟨by simpa using h0, ⟨ob, by simpa using h1, by simp [getE, hk, h2]⟩, fun o => by simp [setE, hk, h3], by simp [delE, hk, h4]⟩
theorem has_idx {es : List (Rec × Ob)} {key : Rec} (h : hasE es key = true) : ∃ i, (es.map (·.1)).findIdx? (· == key) = some i ∧ i < es.length ∧ es[i]? = some (key, obE es key) ∧
    (∀ o, setE es key o = es.set i (key, o)) ∧ delE es key = es.eraseIdx i := by
  have := find_ks (key := key) es
  split at this
  · rename_i i hi
    obtain ⟨h0, ⟨ob, h1, h2⟩, h3, h4⟩ := this
    exact ⟨i, hi, h0, by rw [h1, obE, h2]; rfl, h3, h4⟩
  · rw [hasE, this.1] at h; cases h
theorem has_not {es : List (Rec × Ob)} {key : Rec} (h : hasE es key = false) : (es.map (·.1)).findIdx? (· == key) = none ∧ (∀ o, setE es key o = es ++ [(key, o)]) ∧ delE es key = es ∧ key ∉ es.map (·.1) := by
  have := find_ks (key := key) es
  split at this
  · obtain ⟨_, ⟨ob, _, h2⟩, _⟩ := this
    rw [hasE, h2] at h; cases h
  · rename_i hi
    exact ⟨hi, this.2⟩
theorem has_set {es : List (Rec × Ob)} {key : Rec} {o : Ob} : hasE (setE es key o) key = true := by
  induction es with
  | nil => simp [hasE, setE, getE]
  | cons x es ih =>
    obtain ⟨k, p⟩ := x
    by_cases hk : k = key
    · simp [hasE, setE, getE, hk]
    · simp only [hasE] at ih
      simp [hasE, setE, getE, hk, ih]
theorem _root_.List.set_getElem?_self' {α : Type} {l : List α} {i : Nat} {x : α} (h : l[i]? = some x) : l.set i x = l := by
  apply List.ext_getElem?
  intro j
  rw [List.getElem?_set]
  split
  · rename_i e
    subst e
    have := (List.getElem?_eq_some_iff.1 h).1
    rw [if_pos this, h]
  · rfl
theorem nodup_idx {es : List (Rec × Ob)} (hn : (es.map (·.1)).Nodup) {i j : Nat} {key : Rec} {o p : Ob} (hi : es[i]? = some (key, o)) (hj : es[j]? = some (key, p)) : i = j := by
  have h1 : (es.map (·.1))[i]? = some key := by rw [List.getElem?_map, hi]; rfl
  have h2 : (es.map (·.1))[j]? = some key := by rw [List.getElem?_map, hj]; rfl
  exact (List.getElem?_inj (List.getElem?_eq_some_iff.1 h1).1 hn).1 (by rw [h1, h2])
section
variable {P : Program} {D : Dom}
theorem bind_run {α β : Type} {m : Rd D.τ α} {f : α → Rd D.τ β} {S : St D.τ} {r : β} {l : List Ref} (h : (m.bind f).run S = some (r, l)) : ∃ a l1 l2, m.run S = some (a, l1) ∧ (f a).run S = some (r, l2) := by
  induction m generalizing r l with
  | ret a => exact ⟨a, [], l, rfl, h⟩
  | fail => cases h
  | slot t k ih =>
    simp only [Rd.bind] at h
    obtain ⟨l', h'⟩ := slot_run h
    obtain ⟨a, l1, l2, h1, h2⟩ := ih _ h'
    exact ⟨a, .slot t :: l1, l2, by simp only [Rd.run, h1], h2⟩
  | box b k ih =>
    simp only [Rd.bind] at h
    obtain ⟨l', h'⟩ := box_run h
    obtain ⟨a, l1, l2, h1, h2⟩ := ih _ h'
    exact ⟨a, .box b :: l1, l2, by simp only [Rd.run, h1], h2⟩
theorem ObjRel.zone {X : Env → World → Nat → BoxSt D.τ → Prop} {fd : FamD D.τ} {σ σ2 : Loc} (h1 : σ2.zw = σ.zw) (h2 : σ2.zm = σ.zm) {w : World} {ob : Ob} {v : Value} {F : Nat → Prop} (h : ObjRel D X fd σ w ob v F) : ObjRel D X fd σ2 w ob v F := by
  obtain ⟨σ', ν', e1, e2, r⟩ := h
  exact ⟨σ', ν', e1.trans h1.symm, e2.trans h2.symm, r⟩
theorem RR.fam {M : Mem} {w0 : World} {σ : Loc} {ν : Nat → Value} {S S' : St D.τ} {w w' : World} (hR : RR D M w0 σ ν S w) {b k : Nat} {es es' : List (Rec × Ob)} {out out' : Option (Rec × List (Part D.τ))} (hbx : S.box b = .fam k es out)
    {old : List Nat} (hbo : b ∉ old) (hS : ∀ c, S'.box c = if c = b then .fam k es' out' else if c ∈ old then .dead else S.box c) (hnp : S'.np = S.np) {F : Nat → Prop}
    (hF : ∀ g, F g → σ.φ b g ∨ ∃ i ∈ old, Fp D (S.env D M w0 σ ν) i (S.box i) g)
    (hbox : BoxRel D (S'.env D M w0 ⟨σ.f, σ.zw, σ.zm, setN σ.φ b F⟩ ν) w' b (.fam k es' out')) (hg : ∃ row, w.grownBy w' row ∧ ∀ g, row = some g → σ.φ b g) :
    RR D M w0 ⟨σ.f, σ.zw, σ.zm, setN σ.φ b F⟩ ν S' w' ∧ (S.env D M w0 σ ν).le (S'.env D M w0 ⟨σ.f, σ.zw, σ.zm, setN σ.φ b F⟩ ν) := by
  obtain ⟨row, hg, hrow⟩ := hg
  have hfb : ∀ g, σ.φ b g → Fp D (S.env D M w0 σ ν) b (S.box b) g := fun g hg => by rw [hbx]; exact hg
  have hFp : ∀ g, Fp D (S'.env D M w0 ⟨σ.f, σ.zw, σ.zm, setN σ.φ b F⟩ ν) b (S'.box b) g → F g := by
    intro g hg
    rw [hS, if_pos rfl] at hg
    have : setN σ.φ b F b g := hg
    rwa [setN_same] at this
  have hle : (S.env D M w0 σ ν).le (S'.env D M w0 ⟨σ.f, σ.zw, σ.zm, setN σ.φ b F⟩ ν) := by
    refine ⟨fun c h => ?_, fun _ _ => rfl, fun _ _ => rfl, rfl, rfl, ⟨rfl, rfl⟩, fun g hg => ⟨hg, rfl⟩⟩
    show (S'.box c).al
    rw [hS]
    by_cases hc : c = b
    · rw [if_pos hc]; trivial
    · rw [if_neg hc]
      by_cases ho : c ∈ old
      · rw [if_pos ho]; trivial
      · rw [if_neg ho]; exact h
  have hlob : ∀ g, F g → w0.heap.size ≤ g ∨ M g := by
    intro g hg
    rcases hF g hg with h | ⟨i, _, h⟩
    · exact hR.lo b g (hfb g h)
    · exact hR.lo i g h
  refine ⟨hR.step hle (· = b) ?_ ?_ ?_ ?_ (hR.kept.grown hg fun g e => hR.lo b g (hfb g (hrow g e))) hnp (hR.zk_grown hg fun g e => hR.zd b g (hfb g (hrow g e))) ?_ (fun c g _ h _ => hR.zd c g h) (fun g h => .inl h) (fun c hc => setN_other _ _ hc), hle⟩
  · rintro c rfl
    rw [hS, if_pos rfl]; exact hbox
  · intro c hc
    rw [hS, if_neg hc]
    by_cases ho : c ∈ old
    · rw [if_pos ho]; exact .inr rfl
    · rw [if_neg ho]
      refine .inl ⟨rfl, fun g hgc => hg.block g (blk_lt hR hgc) (fun e => ?_)⟩
      exact hR.disj c b g hc hgc (hfb g (hrow g e.symm))
  · rintro c c' g rfl hne h1 h2
    have h1' := hFp g h1
    rw [hS, if_neg (Ne.symm hne)] at h2
    by_cases ho : c' ∈ old
    · rw [if_pos ho] at h2; cases h2
    · rw [if_neg ho] at h2
      have h2' : Fp D (S.env D M w0 σ ν) c' (S.box c') g :=
        (fp_same (E := S.env D M w0 σ ν) (F := S'.env D M w0 ⟨σ.f, σ.zw, σ.zm, setN σ.φ c F⟩ ν) rfl rfl (setN_other _ _ (Ne.symm hne))).1 h2
      rcases hF g h1' with h | ⟨i, hi, h⟩
      · exact hR.disj c c' g hne (hfb g h) h2'
      · exact hR.disj i c' g (fun e => ho (e ▸ hi)) h h2'
  · rintro c g rfl h
    exact hlob g (hFp g h)
  · rintro c g rfl h hz
    rcases hF g (hFp g h) with h' | ⟨i, _, h'⟩
    · exact hR.zd c g (hfb g h') hz
    · exact hR.zd i g h' hz
theorem mkAV_val {E : Env} {agg : Bool} {ps : List (Part D.τ)} {x : AV D.τ} {v : Value} (h : mkAV agg ps = some x) (hv : ValRel D E agg ps v) : AVRel D E x v := by
  cases agg with
  | true =>
    obtain ⟨cs, rfl, hp⟩ := hv
    rcases mkAV_rel h hp with ⟨_, h1⟩ | ⟨h1, _⟩
    · exact h1
    · cases h1
  | false =>
    rcases mkAV_rel h hv.2 with ⟨h1, _⟩ | ⟨_, u, e, h1⟩
    · cases h1
    · simp only [List.cons.injEq, and_true] at e
      subst e; exact h1
theorem val_parts {E : Env} {ps : List (Part D.τ)} {x : AV D.τ} {v : Value} (h : partsOf x = some ps) (hx : AVRel D E x v) : ValRel D E (isAggA x) ps v := by
  unfold partsOf at h
  split at h
  · simp only [Option.some.injEq] at h; subst h
    exact ⟨hx.1, _, [], by simp, hx.2, rfl⟩
  · simp only [Option.some.injEq] at h; subst h
    exact hx
  · cases h
theorem rdBs_run {α : Type} {S : St D.τ} : ∀ {bs : List Nat} {k : List (BoxSt D.τ) → Rd D.τ α} {r : α} {l : List Ref}, (rdBs bs k).run S = some (r, l) → ∃ l', (k (bs.map S.box)).run S = some (r, l')
  | [], k, r, l, h => ⟨l, h⟩
  | b :: bs, k, r, l, h => by
    simp only [rdBs] at h
    obtain ⟨l1, h⟩ := box_run h
    obtain ⟨l', h'⟩ := rdBs_run (bs := bs) h
    exact ⟨l', h'⟩
theorem idρ_spec : ∀ {n b c : Nat}, assoc (idρ n) b = some c → b = c ∧ c < n
  | 0, b, c, h => by cases h
  | n + 1, b, c, h => by
    simp only [idρ, assoc] at h
    cases hb : Nat.beq b n <;> simp only [hb, cond_true, cond_false] at h
    · have := idρ_spec h
      exact ⟨this.1, by omega⟩
    · have := Nat.eq_of_beq_eq_true hb
      simp only [Option.some.injEq] at h
      omega
theorem idρ_get : ∀ {n b : Nat}, b < n → assoc (idρ n) b = some b
  | 0, b, h => by omega
  | n + 1, b, h => by
    simp only [idρ, assoc]
    by_cases hb : b = n
    · subst hb; rw [Nat.beq_refl]; rfl
    · rw [beq_ne hb]; exact idρ_get (by omega)
theorem ren_id {σ : Loc} {ν : Nat → Value} {n : Nat} : Ren (idρ n) (ienv σ ν n) (ienv σ ν n) :=
  ⟨fun b c h => by have := idρ_spec h; show b < n; omega, fun b c h => by rw [(idρ_spec h).1], fun b c h => by rw [(idρ_spec h).1], fun b c h => by rw [(idρ_spec h).1], fun b h => by have := (idρ_spec h).1; unfold nilB at this; omega, rfl, rfl, ⟨rfl, rfl⟩⟩
theorem fitBs_get {ρ : List (Nat × Nat)} : ∀ {bs cs : List (BoxSt D.τ)} {xs : List Prop}, fitBs D ρ bs cs = some xs → AllQ xs → bs.length = cs.length ∧ ∀ (i : Nat) s, bs[i]? = some s → ∃ t ys, cs[i]? = some t ∧ fitB D ρ s t = some ys ∧ AllQ ys
  | [], [], _, _, _ => ⟨rfl, fun i s h => by simp at h⟩
  | [], _ :: _, _, h, _ => by cases h
  | _ :: _, [], _, h, _ => by cases h
  | b :: bs, c :: cs, xs, h, hx => by
    simp only [fitBs] at h
    split at h
    · rename_i ys hys
      split at h
      · rename_i zs hzs
        simp only [Option.some.injEq] at h; subst h
        obtain ⟨q1, q2⟩ := fitBs_get hzs hx.append.2
        refine ⟨by simp [q1], fun i s hi => ?_⟩
        cases i with
        | zero => simp only [List.getElem?_cons_zero, Option.some.injEq] at hi; subst hi; exact ⟨c, ys, rfl, hys, hx.append.1⟩
        | succ i => obtain ⟨t, ws, p1, p2⟩ := q2 i s (by simpa using hi); exact ⟨t, ws, by simpa using p1, p2⟩
      · cases h
    · cases h
theorem fitB_low {ρ : List (Nat × Nat)} {s t : BoxSt D.τ} {xs : List Prop} {n : Nat} (h : fitB D ρ s t = some xs) (ht : lowB n t = true) : lowB n s = true := by
  unfold fitB at h
  split at h
  · rfl
  · rfl
  · rfl
  · rename_i k es k' es'
    cases hk : Nat.beq k k' <;> simp only [hk, cond_true, cond_false] at h
    · cases h
    rw [Nat.eq_of_beq_eq_true hk]; exact ht
  · rename_i k es x ps k' es' y qs
    cases hk : Nat.beq k k' <;> simp only [hk, cond_true, cond_false] at h
    · cases h
    rw [Nat.eq_of_beq_eq_true hk]; exact ht
  · cases h
theorem obj_of {M : Mem} {w0 : World} {σ : Loc} {ν : Nat → Value} {S : St D.τ} {w : World} (hR : RR D M w0 σ ν S w) {k : Nat} {fd : FamD D.τ} {ids : List Nat} (hnd : ids.Nodup) (hn : ids.length = fd.n) {bs : List (BoxSt D.τ)} (hbs : rnBs D (idx ids) (ids.map S.box) = some bs)
    (hlow : bs.all (lowB k) = true) {ps qs : List (Part D.τ)} (hqs : rnPs D (idx ids) ps = some qs) {ob : Ob} {xs ys : List Prop} (hfp : fitPs D (idρ fd.n) (fd.root ob) qs = some xs) (hfb : fitBs D (idρ fd.n) (fd.boxes ob) bs = some ys) (hx : AllQ xs) (hy : AllQ ys)
    {v : Value} (hv : ValRel D (S.env D M w0 σ ν) fd.vagg ps v) : ObjRel D (XK D k) fd σ w ob v (fun g => ∃ i ∈ ids, Fp D (S.env D M w0 σ ν) i (S.box i) g) := by
  obtain ⟨hbl, hbg⟩ := rnBs_get hbs
  rw [List.length_map] at hbl
  obtain ⟨hfl, hfg⟩ := fitBs_get hfb hy
  let σ' : Loc := ⟨fun i => σ (ids.getD i 0), σ.zw, σ.zm, fun i => σ.φ (ids.getD i 0)⟩
  let ν' : Nat → Value := fun i => ν (ids.getD i 0)
  have hren : RenF (idx ids) (S.env D M w0 σ ν) (ienv σ' ν' fd.n) := by
    refine ⟨fun b c hb _ => ?_, fun b c hb => ?_, fun b c hb => ?_, fun g hg => ⟨hg, rfl⟩⟩
    · have := (List.getElem?_eq_some_iff.1 (idx_spec hb)).1
      show c < fd.n
      omega
    · have := idx_spec hb
      show σ (ids.getD c 0) = σ b
      simp [this, List.getD_eq_getElem?_getD]
    · have := idx_spec hb
      show ν (ids.getD c 0) = ν b
      simp [this, List.getD_eq_getElem?_getD]
  have hget : ∀ (i : Nat) s, bs[i]? = some s → ∃ b, ids[i]? = some b ∧ rnB D (idx ids) (S.box b) = some s ∧ σ' i = σ b ∧ ν' i = ν b ∧ σ'.φ i = σ.φ b := by
    intro i s hs
    have hlt : i < ids.length := by have := (List.getElem?_eq_some_iff.1 hs).1; omega
    have hidi : ids[i]? = some ids[i] := List.getElem?_eq_getElem hlt
    obtain ⟨t, ht, hrt⟩ := hbg i (S.box ids[i]) (by rw [List.getElem?_map, hidi]; rfl)
    rw [hs] at ht
    simp only [Option.some.injEq] at ht
    subst ht
    refine ⟨ids[i], hidi, hrt, ?_, ?_, ?_⟩
    · show σ (ids.getD i 0) = σ ids[i]; simp [hidi, List.getD_eq_getElem?_getD]
    · show ν (ids.getD i 0) = ν ids[i]; simp [hidi, List.getD_eq_getElem?_getD]
    · show σ.φ (ids.getD i 0) = σ.φ ids[i]; simp [hidi, List.getD_eq_getElem?_getD]
  have hsub : ∀ (i : Nat) s, (fd.boxes ob)[i]? = some s → ∃ b, ids[i]? = some b ∧ s.al ∧ XK D k (ienv σ' ν' fd.n) w i s ∧ ∀ g, Fp D (ienv σ' ν' fd.n) i s g → Fp D (S.env D M w0 σ ν) b (S.box b) g := by
    intro i s hs
    obtain ⟨t, zs, h1, h2, h3⟩ := hfg i s hs
    obtain ⟨b, q1, q2, q3, q4, q5⟩ := hget i t h1
    have hlt : i < fd.n := by have := (List.getElem?_eq_some_iff.1 h1).1; omega
    have hbr : BoxRel D (ienv σ' ν' fd.n) w i t := rnB_rel hren (b := b) q3 q4 q5 q2 (hR.boxes b)
    obtain ⟨p1, p2, p3⟩ := fitB_sound ren_id (idρ_get hlt) h2 h3 hbr
    refine ⟨b, q1, p1, XK_box.2 ⟨fitB_low h2 ?_, p2⟩, fun g hg => ?_⟩
    · exact List.all_eq_true.1 hlow t (List.mem_of_getElem? h1)
    · exact (rnB_blk (E := S.env D M w0 σ ν) (F := ienv σ' ν' fd.n) q3 q4 q5 q2).1 (p3 g hg)
  refine ⟨σ', ν', rfl, rfl, ?_, by rw [hfl, hbl, hn], fun i s hs => ?_, fun i j s t g hij hi hj h1 h2 => ?_⟩
  · have h1 := hv.ren hren hqs
    cases hagg : fd.vagg with
    | true => rw [hagg] at h1; obtain ⟨cs, e, hp⟩ := h1; exact ⟨cs, e, fitPs_sound ren_id hfp hx hp⟩
    | false => rw [hagg] at h1; exact ⟨h1.1, fitPs_sound ren_id hfp hx h1.2⟩
  · obtain ⟨b, q1, q2, q3, q4⟩ := hsub i s hs
    exact ⟨q2, q3, fun g hg => ⟨b, List.mem_of_getElem? q1, q4 g hg⟩⟩
  · obtain ⟨b, q1, _, _, q4⟩ := hsub i s hi
    obtain ⟨c, p1, _, _, p4⟩ := hsub j t hj
    refine hR.disj b c g (fun e => hij ?_) (q4 g h1) (p4 g h2)
    subst e
    exact (List.getElem?_inj (List.getElem?_eq_some_iff.1 q1).1 hnd).1 (by rw [q1, p1])
theorem putBack_sound {M : Mem} {w0 : World} {σ : Loc} {ν : Nat → Value} {S : St D.τ} {w : World} (hR : RR D M w0 σ ν S w) {b k : Nat} {es : List (Rec × Ob)} {key : Rec} {ps : List (Part D.τ)} {fd : FamD D.τ} (hbx : S.box b = .fam k es (some (key, ps))) (hfd : D.fam k = some fd)
    {us : List (Nat × BoxSt D.τ)} {es' : List (Rec × Ob)} {qs : List Prop} {l : List Ref} (h : (putBack D k b fd es key ps).run S = some ((us, es', qs), l)) (hq : AllQ qs) :
    ∃ φ, RR D M w0 ⟨σ.f, σ.zw, σ.zm, φ⟩ ν (S.bx (us ++ [(b, .fam k es' none)])) w ∧ (S.env D M w0 σ ν).le ((S.bx (us ++ [(b, .fam k es' none)])).env D M w0 ⟨σ.f, σ.zw, σ.zm, φ⟩ ν) ∧
      (∀ c, S.box c = .un → (S.bx (us ++ [(b, .fam k es' none)])).box c = .un) := by
  unfold putBack at h
  obtain ⟨⟨ob, ids⟩, l1, l2, h1, h⟩ := bind_run h
  simp only at h
  generalize hc : (nodupB ids && (!(ids.any (Nat.beq b)) && Nat.beq ids.length fd.n)) = cc at h
  cases cc <;> simp only [cond_true, cond_false, run_fail] at h
  simp only [Bool.and_eq_true, Bool.not_eq_true'] at hc
  have hnd := nodupB_spec hc.1
  have hbi := any_beq_false hc.2.1
  have hlen := Nat.eq_of_beq_eq_true hc.2.2
  obtain ⟨l3, h⟩ := rdBs_run h
  split at h
  · rename_i bs q2 hbs hq2
    generalize hlw : bs.all (lowB k) = lw at h
    cases lw <;> simp only [cond_true, cond_false, run_fail] at h
    split at h
    · rename_i xs ys hxs hys
      simp only [run_ret, Prod.mk.injEq] at h
      obtain ⟨⟨rfl, rfl, rfl⟩, _⟩ := h
      have hS : ∀ c, (S.bx (ids.map (fun i => (i, .dead)) ++ [(b, .fam k (setE es key ob) none)])).box c = if c = b then .fam k (setE es key ob) none else if c ∈ ids then .dead else S.box c := fun c => bx_old ids S b _ c
      generalize hS' : S.bx (ids.map (fun i => (i, .dead)) ++ [(b, .fam k (setE es key ob) none)]) = S' at hS
      have hold := hR.boxes b
      rw [hbx] at hold
      obtain ⟨fd', hfd', vs, Fs, q3, q4, q5, q6, q7, q8, q9, q10, q11⟩ := hold
      rw [hfd] at hfd'
      simp only [Option.some.injEq] at hfd'
      subst hfd'
      obtain ⟨i0, hi0, hi0l, hi0e, hset, _⟩ := has_idx (q8 key ps rfl)
      obtain ⟨v0, hv0⟩ : ∃ v, vs[i0]? = some v := ⟨_, List.getElem?_eq_getElem (by omega)⟩
      have hval : ValRel D (S.env D M w0 σ ν) fd.vagg ps v0 := by
        rcases q9 i0 _ _ _ hi0e hv0 with ⟨ps', e1, e2⟩ | ⟨e1, _⟩
        · simp only [Option.some.injEq, Prod.mk.injEq, true_and] at e1
          subst e1; exact e2
        · exact (e1 ps rfl).elim
      have hobj := obj_of hR (k := k) (ob := ob) hnd hlen hbs hlw hq2 hxs hys hq.append.1 hq.append.2 hval
      have hfb : ∀ g, σ.φ b g → Fp D (S.env D M w0 σ ν) b (S.box b) g := fun g hg => by rw [hbx]; exact hg
      have hout : ∀ i g, i ∈ ids → Fp D (S.env D M w0 σ ν) i (S.box i) g → ¬ σ.φ b g := fun i g hi hg hb => hR.disj i b g (fun e => hbi (e ▸ hi)) hg (hfb g hb)
      have hkeys : (setE es key ob).map (·.1) = es.map (·.1) := by
        rw [hset, List.map_set]
        exact List.set_getElem?_self' (by rw [List.getElem?_map, hi0e]; rfl)
      have hbox : BoxRel D (S'.env D M w0 ⟨σ.f, σ.zw, σ.zm, setN σ.φ b (fun g => σ.φ b g ∨ ∃ i ∈ ids, Fp D (S.env D M w0 σ ν) i (S.box i) g)⟩ ν) w b (.fam k (setE es key ob) none) := by
        refine ⟨fd, hfd, vs, setN Fs i0 (fun g => ∃ j ∈ ids, Fp D (S.env D M w0 σ ν) j (S.box j) g), ?_, by rw [hkeys]; exact q4, by rw [hset, List.length_set]; exact q5, fun g hg => ?_, fun g hg => ?_, (fun x ps h => by cases h), fun i key' ob' v hi hv => ?_, fun i g hg => ?_, fun i j g h1 h2 => ?_⟩
        · rw [hkeys]; exact q3
        · have hg' : setN σ.φ b (fun g => σ.φ b g ∨ ∃ i ∈ ids, Fp D (S.env D M w0 σ ν) i (S.box i) g) b g := hg
          rw [setN_same] at hg'
          rcases hg' with h | ⟨i, _, h⟩
          · exact q6 g h
          · exact blk_lt hR h
        · show setN σ.φ b _ b g
          rw [setN_same]
          exact .inl (q7 g hg)
        · refine .inr ⟨(fun ps h => by cases h), ?_⟩
          rw [hset] at hi
          by_cases hii : i = i0
          · subst hii
            rw [List.getElem?_set_self hi0l] at hi
            simp only [Option.some.injEq, Prod.mk.injEq] at hi
            obtain ⟨rfl, rfl⟩ := hi
            rw [hv0] at hv
            simp only [Option.some.injEq] at hv
            subst hv
            rw [setN_same]
            exact hobj.zone rfl rfl
          · rw [List.getElem?_set_ne (fun e => hii e.symm)] at hi
            rw [setN_other _ _ hii]
            rcases q9 i _ _ _ hi hv with ⟨ps', e1, _⟩ | ⟨_, e2⟩
            · simp only [Option.some.injEq, Prod.mk.injEq] at e1
              obtain ⟨rfl, _⟩ := e1
              exact (hii (nodup_idx q4 hi hi0e)).elim
            · exact e2.zone rfl rfl
        · show setN σ.φ b _ b g ∧ ¬ IsCont D fd (S.env D M w0 σ ν) b g
          rw [setN_same]
          by_cases hii : i = i0
          · rw [hii, setN_same] at hg
            obtain ⟨j, hj, hg⟩ := hg
            exact ⟨.inr ⟨j, hj, hg⟩, fun hc => hout j g hj hg (q7 g hc)⟩
          · rw [setN_other _ _ hii] at hg
            exact ⟨.inl (q10 i g hg).1, (q10 i g hg).2⟩
        · by_cases hii : i = i0 <;> by_cases hjj : j = i0
          · rw [hii, hjj]
          · rw [hii, setN_same] at h1
            rw [setN_other _ _ hjj] at h2
            obtain ⟨c, hc, h1⟩ := h1
            exact (hout c g hc h1 (q10 j g h2).1).elim
          · rw [setN_other _ _ hii] at h1
            rw [hjj, setN_same] at h2
            obtain ⟨c, hc, h2⟩ := h2
            exact (hout c g hc h2 (q10 i g h1).1).elim
          · rw [setN_other _ _ hii] at h1
            rw [setN_other _ _ hjj] at h2
            exact q11 i j g h1 h2
      obtain ⟨r1, r2⟩ := RR.fam (S' := S') hR hbx (old := ids) hbi hS (by rw [← hS']; exact bx_np _ S) (F := fun g => σ.φ b g ∨ ∃ i ∈ ids, Fp D (S.env D M w0 σ ν) i (S.box i) g) (fun g h => h)
        (es' := setE es key ob) (out' := none) (w' := w) hbox ⟨none, World.grownBy.refl _ _, fun g h => by cases h⟩
      refine ⟨_, r1, r2, fun c hun => ?_⟩
      rw [hS]
      have h1 : c ≠ b := fun e => by rw [e, hbx] at hun; cases hun
      rw [if_neg h1]
      by_cases h2 : c ∈ ids
      · exfalso
        obtain ⟨i, hi⟩ := List.mem_iff_getElem?.1 h2
        obtain ⟨t, _, ht⟩ := (rnBs_get hbs).2 i (S.box c) (by rw [List.getElem?_map, hi]; rfl)
        have := (rnB_al ht).1
        rw [hun] at this; exact this
      · rw [if_neg h2]; exact hun
    · simp at h
  · simp at h
def MapAt (fd : FamD D.τ) (w : World) (r : Nat) (ks : List Rec) (vs : List Value) : Prop :=
  ∃ ens clock, w.heap[r]? = some (.map ens clock) ∧ ens.toList.map (·.key) = ks.map (keyV fd.kagg fd.ksh) ∧ ens.toList.map (·.val) = vs ∧ Born ens clock ∧ ∀ k ∈ ks, keyOK fd.ksh k = true
theorem cont_map {fd : FamD D.τ} {E : Env} {w : World} {b : Nat} {ks : List Rec} {vs : List Value} (hr : fd.row = false) : ContRel D fd E w b ks vs ↔ MapAt fd w (E.σ b) ks vs := by
  unfold ContRel MapAt
  rw [hr]
theorem shift_spec {nid n i c : Nat} (h : shift nid n i = some c) : i < n ∧ c = nid + i := by
  unfold shift at h
  cases hb : Nat.blt i n <;> simp only [hb, cond_true, cond_false] at h
  · cases h
  · simp only [Option.some.injEq] at h
    rw [Nat.blt_eq] at hb
    exact ⟨hb, h.symm⟩
theorem cont_move {fd : FamD D.τ} {E F : Env} {w : World} {b c : Nat} {ks : List Rec} {vs : List Value} (h1 : F.σ c = E.σ b) (h2 : F.ν c = E.ν b) (h : ContRel D fd E w b ks vs) : ContRel D fd F w c ks vs := by
  unfold ContRel at h ⊢
  cases hr : fd.row <;> rw [hr] at h <;> simp only at h ⊢
  · rw [h1]; exact h
  · rw [h2]; exact h
theorem isCont_move {fd : FamD D.τ} {E F : Env} {b c g : Nat} (h1 : F.σ c = E.σ b) (h2 : F.ν c = E.ν b) (h : IsCont D fd E b g) : IsCont D fd F c g := by
  unfold IsCont at h ⊢
  cases hr : fd.row <;> rw [hr] at h <;> simp only at h ⊢
  · rw [h1]; exact h
  · rw [h2]; exact h
theorem takeOut_sound {M : Mem} {w0 : World} {σ : Loc} {ν : Nat → Value} {S : St D.τ} {w : World} (hR : RR D M w0 σ ν S w) {b k nid : Nat} {es : List (Rec × Ob)} {key : Rec} {ps : List (Part D.τ)} {bs : List (BoxSt D.τ)} {fd : FamD D.τ}
    (hbx : S.box b = .fam k es none) (hfd : D.fam k = some fd) (hun : ∀ i, i < fd.n → S.box (nid + i) = .un) (hps : rnPs D (shift nid fd.n) (fd.root (obE es key)) = some ps)
    (hbs : rnBs D (shift nid fd.n) (fd.boxes (obE es key)) = some bs) (hhas : hasE es key = true) :
    ∃ σ' ν' vs, ContRel D fd (S.env D M w0 σ ν) w b (es.map (·.1)) vs ∧ vs.length = es.length ∧ σ'.zw = σ.zw ∧ σ'.zm = σ.zm ∧
      RR D M w0 σ' ν' (S.bx ((b, .fam k es (bif Nat.beq fd.n 0 then none else some (key, ps))) :: zipU (newIds nid fd.n) bs)) w ∧
      (S.env D M w0 σ ν).le ((S.bx ((b, .fam k es (bif Nat.beq fd.n 0 then none else some (key, ps))) :: zipU (newIds nid fd.n) bs)).env D M w0 σ' ν') ∧
      ∀ (i : Nat) v, es[i]? = some (key, obE es key) → vs[i]? = some v → ValRel D ((S.bx ((b, .fam k es (bif Nat.beq fd.n 0 then none else some (key, ps))) :: zipU (newIds nid fd.n) bs)).env D M w0 σ' ν') fd.vagg ps v := by
  have hold := hR.boxes b
  rw [hbx] at hold
  obtain ⟨fd', hfd', vs, Fs, q3, q4, q5, q6, q7, q8, q9, q10, q11⟩ := hold
  rw [hfd] at hfd'
  simp only [Option.some.injEq] at hfd'
  subst hfd'
  obtain ⟨i0, hi0, hi0l, hi0e, _, _⟩ := has_idx hhas
  obtain ⟨v0, hv0⟩ : ∃ v, vs[i0]? = some v := ⟨_, List.getElem?_eq_getElem (by omega)⟩
  have hobj : ObjRel D (XK D k) fd σ w (obE es key) v0 (Fs i0) := by
    rcases q9 i0 _ _ _ hi0e hv0 with ⟨ps', e1, _⟩ | ⟨_, e2⟩
    · cases e1
    · exact e2
  obtain ⟨σ1, ν1, z1, z2, o1, o2, o3, o4⟩ := hobj
  obtain ⟨hul, hug⟩ := rnBs_get hbs
  have hbl : bs.length = fd.n := by rw [hul, o2]
  generalize hout : (bif Nat.beq fd.n 0 then none else some (key, ps) : Option (Rec × List (Part D.τ))) = out
  have hnew : ∀ i c, (newIds nid fd.n)[i]? = some c → i < fd.n ∧ c = nid + i := by
    intro i c h
    rw [newIds_get] at h
    split at h
    · rename_i hi
      simp only [Option.some.injEq] at h
      exact ⟨hi, h.symm⟩
    · cases h
  have hbn : ∀ i, i < fd.n → nid + i ≠ b := fun i hi e => by have := hun i hi; rw [e, hbx] at this; cases this
  have hnn : (newIds nid fd.n).Nodup := by
    refine List.pairwise_iff_getElem.2 fun i j hi hj hij heq => ?_
    have h1 := (hnew i _ (List.getElem?_eq_getElem hi)).2
    have h2 := (hnew j _ (List.getElem?_eq_getElem hj)).2
    omega
  generalize hS' : S.bx ((b, .fam k es out) :: zipU (newIds nid fd.n) bs) = S'
  have hSz : ∀ c, (∀ i, i < fd.n → c = nid + i → S'.box c = (bs[i]?).getD .un) ∧ ((∀ i, i < fd.n → c ≠ nid + i) → S'.box c = if c = b then .fam k es out else S.box c) := by
    intro c
    have := bx_zip (newIds nid fd.n) bs (S.upd (.box b (.fam k es out))) c hnn (by rw [newIds_len, hbl])
    refine ⟨fun i hi e => ?_, fun h => ?_⟩
    · rw [← hS']
      exact this.1 i (by rw [newIds_get, if_pos hi, e])
    · have hc : c ∉ newIds nid fd.n := by
        intro hm
        obtain ⟨i, hi⟩ := List.mem_iff_getElem?.1 hm
        exact h i (hnew i c hi).1 (hnew i c hi).2
      rw [← hS']
      refine (this.2 hc).trans ?_
      by_cases hcb : c = b
      · subst hcb; rw [upd_box_same, if_pos rfl]
      · rw [upd_box_other S _ hcb, if_neg hcb]
  have hin : ∀ c, (∃ i, i < fd.n ∧ c = nid + i) ∨ ∀ i, i < fd.n → c ≠ nid + i := by
    intro c
    by_cases h : ∃ i, i < fd.n ∧ c = nid + i
    · exact .inl h
    · exact .inr fun i hi e => h ⟨i, hi, e⟩
  have hsl : S'.slot = S.slot ∧ S'.nt = S.nt := by rw [← hS']; exact bx_slot _ S
  have hnp : S'.np = S.np := by rw [← hS']; exact bx_np _ S
  let inr : Nat → Bool := fun c => decide (nid ≤ c ∧ c < nid + fd.n)
  let σ' : Loc := ⟨fun c => bif inr c then σ1 (c - nid) else σ c, σ.zw, σ.zm, fun c => bif inr c then σ1.φ (c - nid) else (if c = b then (fun g => σ.φ b g ∧ ¬ (0 < fd.n ∧ Fs i0 g)) else σ.φ c)⟩
  let ν' : Nat → Value := fun c => bif inr c then ν1 (c - nid) else ν c
  have hinT : ∀ i, i < fd.n → σ' (nid + i) = σ1 i ∧ ν' (nid + i) = ν1 i ∧ σ'.φ (nid + i) = σ1.φ i := by
    intro i hi
    have h1 : inr (nid + i) = true := by simp [inr]; omega
    refine ⟨?_, ?_, ?_⟩
    · show (bif inr (nid + i) then σ1 (nid + i - nid) else _) = _
      rw [h1, Nat.add_sub_cancel_left]; rfl
    · show (bif inr (nid + i) then ν1 (nid + i - nid) else _) = _
      rw [h1, Nat.add_sub_cancel_left]; rfl
    · show (bif inr (nid + i) then σ1.φ (nid + i - nid) else _) = _
      rw [h1, Nat.add_sub_cancel_left]; rfl
  have hinF : ∀ c, (∀ i, i < fd.n → c ≠ nid + i) → σ' c = σ c ∧ ν' c = ν c ∧ σ'.φ c = if c = b then (fun g => σ.φ b g ∧ ¬ (0 < fd.n ∧ Fs i0 g)) else σ.φ c := by
    intro c hc
    have h1 : inr c = false := by
      simp only [inr, decide_eq_false_iff_not]
      rintro ⟨h1, h2⟩
      exact hc (c - nid) (by omega) (by omega)
    refine ⟨?_, ?_, ?_⟩
    · show (bif inr c then _ else σ c) = _
      rw [h1]; rfl
    · show (bif inr c then _ else ν c) = _
      rw [h1]; rfl
    · show (bif inr c then _ else _) = _
      rw [h1]; rfl
  have hbr : ∀ i, i < fd.n → b ≠ nid + i := fun i hi e => hbn i hi e.symm
  have hal : ∀ c, (S.box c).al → ∀ i, i < fd.n → c ≠ nid + i := fun c h i hi e => by rw [e, hun i hi] at h; exact h
  have hle : (S.env D M w0 σ ν).le (S'.env D M w0 σ' ν') := by
    refine ⟨fun c h => ?_, fun c h => (hinF c (hal c h)).1, fun c h => (hinF c (hal c h)).2.1, rfl, rfl, ⟨rfl, rfl⟩, fun g hg => ⟨hg, rfl⟩⟩
    show (S'.box c).al
    rw [(hSz c).2 (hal c h)]
    by_cases hcb : c = b
    · rw [if_pos hcb]; trivial
    · rw [if_neg hcb]; exact h
  have hren : RenF (shift nid fd.n) (ienv σ1 ν1 fd.n) (S'.env D M w0 σ' ν') := by
    refine ⟨fun i c h _ => ?_, fun i c h => ?_, fun i c h => ?_, fun g hg => ?_⟩
    · obtain ⟨h1, h2⟩ := shift_spec h
      show (S'.box c).al
      rw [(hSz c).1 i h1 h2]
      obtain ⟨s, hs⟩ : ∃ s, (fd.boxes (obE es key))[i]? = some s := ⟨_, List.getElem?_eq_getElem (by omega)⟩
      obtain ⟨t, ht, hrt⟩ := hug i s hs
      rw [ht]; exact (rnB_al hrt).2
    · obtain ⟨h1, rfl⟩ := shift_spec h
      exact (hinT i h1).1
    · obtain ⟨h1, rfl⟩ := shift_spec h
      exact (hinT i h1).2.1
    · rw [show (ienv σ1 ν1 fd.n).σ = σ1 from rfl, z2] at hg
      exact ⟨hg, by show σ.zw.heap[g]? = σ1.zw.heap[g]?; rw [z1]⟩
  have hfb : ∀ g, σ.φ b g → Fp D (S.env D M w0 σ ν) b (S.box b) g := fun g hg => by rw [hbx]; exact hg
  have hget : ∀ i, i < fd.n → ∃ s t, (fd.boxes (obE es key))[i]? = some s ∧ rnB D (shift nid fd.n) s = some t ∧ S'.box (nid + i) = t := by
    intro i hi
    obtain ⟨s, hs⟩ : ∃ s, (fd.boxes (obE es key))[i]? = some s := ⟨_, List.getElem?_eq_getElem (by omega)⟩
    obtain ⟨t, ht, hrt⟩ := hug i s hs
    exact ⟨s, t, hs, hrt, by rw [(hSz _).1 i hi rfl, ht]; rfl⟩
  have hFpN : ∀ i g, i < fd.n → Fp D (S'.env D M w0 σ' ν') (nid + i) (S'.box (nid + i)) g → Fs i0 g ∧ ∃ s, (fd.boxes (obE es key))[i]? = some s ∧ Fp D (ienv σ1 ν1 fd.n) i s g := by
    intro i g hi hg
    obtain ⟨s, t, h1, h2, h3⟩ := hget i hi
    rw [h3] at hg
    have := (rnB_blk (E := ienv σ1 ν1 fd.n) (F := S'.env D M w0 σ' ν') (hinT i hi).1 (hinT i hi).2.1 (hinT i hi).2.2 h2).1 hg
    exact ⟨(o3 i s h1).2.2 g this, s, h1, this⟩
  have hFpB : ∀ g, Fp D (S'.env D M w0 σ' ν') b (S'.box b) g ↔ σ.φ b g ∧ ¬ (0 < fd.n ∧ Fs i0 g) := by
    intro g
    rw [(hSz b).2 hbr, if_pos rfl]
    show σ'.φ b g ↔ _
    rw [(hinF b hbr).2.2, if_pos rfl]
  have hFpO : ∀ c g, c ≠ b → (∀ i, i < fd.n → c ≠ nid + i) → Fp D (S'.env D M w0 σ' ν') c (S'.box c) g → Fp D (S.env D M w0 σ ν) c (S.box c) g := by
    intro c g hcb hc hg
    rw [(hSz c).2 hc, if_neg hcb] at hg
    refine (fp_same (E := S.env D M w0 σ ν) (F := S'.env D M w0 σ' ν') (hinF c hc).1 (hinF c hc).2.1 ?_).1 hg
    show σ'.φ c = σ.φ c
    rw [(hinF c hc).2.2, if_neg hcb]
  have hall : ∀ c g, (c = b ∨ ∃ i, i < fd.n ∧ c = nid + i) → Fp D (S'.env D M w0 σ' ν') c (S'.box c) g → σ.φ b g := by
    intro c g hc hg
    rcases hc with rfl | ⟨i, hi, rfl⟩
    · exact ((hFpB g).1 hg).1
    · exact (q10 i0 g (hFpN i g hi hg).1).1
  refine ⟨σ', ν', vs, q3, q5.symm, rfl, rfl, hR.step hle (fun c => c = b ∨ ∃ i, i < fd.n ∧ c = nid + i) ?_ ?_ ?_ ?_ hR.kept hnp hR.zk ?_ (fun c g _ h _ => hR.zd c g h) (fun g h => .inl h) (fun c hc => ?_), hle, ?_⟩
  · rintro c (rfl | ⟨i, hi, rfl⟩)
    · rw [(hSz c).2 hbr, if_pos rfl]
      refine ⟨fd, hfd, vs, setN Fs i0 (fun g => ¬ (0 < fd.n) ∧ Fs i0 g), ?_, q4, q5, fun g hg => ?_, fun g hg => ?_, fun x ps' e => ?_, fun i key' ob' v hi hv => ?_, fun i g hg => ?_, fun i j g h1 h2 => ?_⟩
      · exact cont_move (E := S.env D M w0 σ ν) (F := S'.env D M w0 σ' ν') (hinF c hbr).1 (hinF c hbr).2.1 q3
      · have hg' : σ'.φ c g := hg
        rw [(hinF c hbr).2.2, if_pos rfl] at hg'
        exact q6 g hg'.1
      · show σ'.φ c g
        rw [(hinF c hbr).2.2, if_pos rfl]
        have hg2 : IsCont D fd (S.env D M w0 σ ν) c g := isCont_move (E := S'.env D M w0 σ' ν') (F := S.env D M w0 σ ν) (hinF c hbr).1.symm (hinF c hbr).2.1.symm hg
        exact ⟨q7 g hg2, fun h => (q10 i0 g h.2).2 hg2⟩
      · rw [← hout] at e
        cases hz : Nat.beq fd.n 0 <;> simp only [hz, cond_true, cond_false] at e
        · simp only [Option.some.injEq, Prod.mk.injEq] at e
          rw [← e.1]; exact hhas
        · cases e
      · by_cases hii : i = i0
        · subst hii
          rw [hi0e] at hi
          simp only [Option.some.injEq, Prod.mk.injEq] at hi
          obtain ⟨rfl, rfl⟩ := hi
          rw [hv0] at hv
          simp only [Option.some.injEq] at hv
          subst hv
          cases hz : Nat.beq fd.n 0
          · refine .inl ⟨ps, by rw [← hout, hz]; rfl, o1.ren hren hps⟩
          · have hn0 := Nat.eq_of_beq_eq_true hz
            refine .inr ⟨(fun ps' e => by rw [← hout, hz] at e; cases e), ?_⟩
            rw [setN_same]
            refine ⟨σ1, ν1, z1, z2, o1, o2, fun i s hs => ?_, o4⟩
            obtain ⟨p1, p2, p3⟩ := o3 i s hs
            exact ⟨p1, p2, fun g hg => ⟨by omega, p3 g hg⟩⟩
        · rcases q9 i _ _ _ hi hv with ⟨ps', e1, _⟩ | ⟨_, e2⟩
          · cases e1
          · refine .inr ⟨fun ps' e => ?_, ?_⟩
            · rw [← hout] at e
              cases hz : Nat.beq fd.n 0 <;> simp only [hz, cond_true, cond_false] at e
              · simp only [Option.some.injEq, Prod.mk.injEq] at e
                obtain ⟨rfl, _⟩ := e
                exact hii (nodup_idx q4 hi hi0e)
              · cases e
            · rw [setN_other _ _ hii]
              exact e2.zone rfl rfl
      · have hcont : IsCont D fd (S'.env D M w0 σ' ν') c g → IsCont D fd (S.env D M w0 σ ν) c g := isCont_move (E := S'.env D M w0 σ' ν') (F := S.env D M w0 σ ν) (hinF c hbr).1.symm (hinF c hbr).2.1.symm
        show σ'.φ c g ∧ _
        rw [(hinF c hbr).2.2, if_pos rfl]
        by_cases hii : i = i0
        · rw [hii, setN_same] at hg
          exact ⟨⟨(q10 i0 g hg.2).1, fun h => hg.1 h.1⟩, fun h => (q10 i0 g hg.2).2 (hcont h)⟩
        · rw [setN_other _ _ hii] at hg
          exact ⟨⟨(q10 i g hg).1, fun h => hii (q11 i i0 g hg h.2)⟩, fun h => (q10 i g hg).2 (hcont h)⟩
      · by_cases hii : i = i0 <;> by_cases hjj : j = i0
        · rw [hii, hjj]
        · rw [hii, setN_same] at h1
          rw [setN_other _ _ hjj] at h2
          exact absurd (q11 j i0 g h2 h1.2) hjj
        · rw [setN_other _ _ hii] at h1
          rw [hjj, setN_same] at h2
          exact absurd (q11 i i0 g h1 h2.2) hii
        · rw [setN_other _ _ hii] at h1
          rw [setN_other _ _ hjj] at h2
          exact q11 i j g h1 h2
    · obtain ⟨s, t, h1, h2, h3⟩ := hget i hi
      rw [h3]
      exact rnB_rel hren (b := i) (hinT i hi).1 (hinT i hi).2.1 (hinT i hi).2.2 h2 (XK_box.1 (o3 i s h1).2.1).2
  · intro c hc
    have h1 : c ≠ b := fun e => hc (.inl e)
    have h2 : ∀ i, i < fd.n → c ≠ nid + i := fun i hi e => hc (.inr ⟨i, hi, e⟩)
    refine .inl ⟨?_, fun _ _ => rfl⟩
    rw [(hSz c).2 h2, if_neg h1]
  · rintro c c' g hc hne h1 h2
    have hcg := hall c g hc h1
    rcases hin c' with ⟨j, hj, rfl⟩ | hc'
    · have hf := (hFpN j g hj h2).1
      rcases hc with rfl | ⟨i, hi, rfl⟩
      · exact ((hFpB g).1 h1).2 ⟨by omega, hf⟩
      · obtain ⟨_, s, hs, hsg⟩ := hFpN i g hi h1
        obtain ⟨_, t, ht, htg⟩ := hFpN j g hj h2
        exact o4 i j s t g (fun e => hne (by rw [e])) hs ht hsg htg
    · by_cases hcb : c' = b
      · subst hcb
        rcases hc with e | ⟨i, hi, rfl⟩
        · exact hne e
        · exact ((hFpB g).1 h2).2 ⟨by omega, (hFpN i g hi h1).1⟩
      · exact hR.disj c' b g hcb (hFpO c' g hcb hc' h2) (hfb g hcg)
  · intro c g hc h
    exact hR.lo b g (hfb g (hall c g hc h))
  · intro c g hc h
    exact hR.zd b g (hfb g (hall c g hc h))
  · have h1 : c ≠ b := fun e => hc (.inl e)
    have h2 : ∀ i, i < fd.n → c ≠ nid + i := fun i hi e => hc (.inr ⟨i, hi, e⟩)
    rw [(hinF c h2).2.2, if_neg h1]
  · intro i v hi hv
    have := nodup_idx q4 hi hi0e
    subst this
    rw [hv0] at hv
    simp only [Option.some.injEq] at hv
    subst hv
    exact o1.ren hren hps
theorem famFits_spec {fd : FamD D.τ} {t : TypeId} (h : famFits P D fd t = true) : fd.row = false ∧ P.underlying t = some (.map fd.kt fd.vt) ∧ fd.vagg = aggB P fd.vt ∧ ∃ n, szOf P fd.vt = some n := by
  unfold famFits at h
  split at h
  · rename_i kt vt ht
    simp only [Bool.and_eq_true, Bool.not_eq_true', beq_iff_eq] at h
    obtain ⟨⟨h1, h2, h3⟩, h4, h5⟩ := h
    have e1 := Nat.eq_of_beq_eq_true h2
    have e2 := Nat.eq_of_beq_eq_true h3
    subst e1; subst e2
    exact ⟨h1, ht, h4, Option.isSome_iff_exists.1 h5⟩
  · cases h
theorem look_run {fd : FamD D.τ} {t : TypeId} {w : World} {r : Nat} {es : List (Rec × Ob)} {vs : List Value} (hm : MapAt fd w r (es.map (·.1)) vs) (ht : P.underlying t = some (.map fd.kt fd.vt)) (hK : KeyT P fd.kt fd.kagg fd.ksh) {key : Rec} (hk : keyOK fd.ksh key = true) (ok : Bool) :
    (hasE es key = false → ∀ z, (zeroValue fd.vt).run P w = .ok z w → (Instr.lookup t (.map (some r)) (keyV fd.kagg fd.ksh key) ok).run P w = .ok (if ok then .tuple #[z, .bool false] else z) w) ∧
    ∀ (i : Nat) v, (es.map (·.1)).findIdx? (· == key) = some i → vs[i]? = some v → (Instr.lookup t (.map (some r)) (keyV fd.kagg fd.ksh key) ok).run P w = .ok (if ok then .tuple #[v, .bool true] else v) w := by
  obtain ⟨ens, clock, h1, h2, h3, h4, h5⟩ := hm
  obtain ⟨k1, k2, k3⟩ := hK w key hk
  have k2' := k2 ens.toList _ h2 h5
  refine ⟨fun hh z hz => ?_, fun i v hi hv => ?_⟩
  · rw [(has_not hh).1] at k2'
    simp [Instr.lookup, run_underlying ht, MapKept.run_getObj_map h1, k1, k2', hz, Result.andThen]
  · rw [hi] at k2'
    have hvi : (ens.toList[i]?).map (fun e => (i, e.val)) = some (i, v) := by
      rw [← h3, List.getElem?_map] at hv
      cases he : ens.toList[i]? with
      | none => rw [he] at hv; cases hv
      | some e =>
        rw [he] at hv
        simp only [Option.map_some, Option.some.injEq] at hv
        rw [Option.map_some, hv]
    simp only [hvi] at k2'
    simp [Instr.lookup, run_underlying ht, MapKept.run_getObj_map h1, k1, k2', Result.andThen]
theorem key_val {E : Env} {sh : List FK} : ∀ {ps : List (Part D.τ)} {key : Rec} {cs : List Value} (pre : Rec), mkRec D sh ps = some key → keyOK sh key = true → PartsRel D E ps cs → cs = keyCells sh pre.length (pre ++ key) := by
  intro ps key cs pre h hk hp
  have hr := mkRec_sound pre h hp
  clear h hp
  induction sh generalizing key cs pre with
  | nil => cases hr; rfl
  | cons f fs ih =>
    obtain ⟨c1, c2, rfl, h1, h2⟩ := hr
    cases key with
    | nil => cases f <;> simp [keyOK] at hk
    | cons x key =>
      have ih' := ih (key := key) (cs := c2) (pre ++ [x])
      rw [List.length_append, List.append_assoc] at ih'
      cases f with
      | int k =>
        cases x <;> simp only [keyOK, Bool.false_eq_true] at hk
        have e := ih' hk h2
        rw [show c1 = _ from h1, e]; rfl
      | bool =>
        cases x <;> simp only [keyOK, Bool.false_eq_true] at hk
        have e := ih' hk h2
        rw [show c1 = _ from h1, e]; rfl
      | str =>
        cases x <;> simp only [keyOK, Bool.false_eq_true] at hk
        have e := ih' hk h2
        rw [show c1 = _ from h1, e]; rfl
      | words k => cases x <;> simp [keyOK] at hk
      | arr k n => cases x <;> simp [keyOK] at hk
theorem key_eval {E : Env} {sh : List FK} {agg : Bool} {x : AV D.τ} {ps : List (Part D.τ)} {key : Rec} {v : Value} (h : partsOf x = some ps) (hm : mkRec D sh ps = some key) (hk : keyOK sh key = true) (hx : AVRel D E x v) (ha : agg = isAggA x) : v = keyV agg sh key := by
  have hv := val_parts h hx
  rw [← ha] at hv
  cases agg with
  | true =>
    obtain ⟨cs, rfl, hp⟩ := hv
    have := key_val [] hm hk hp
    rw [this]; rfl
  | false =>
    have := key_val [] hm hk hv.2
    unfold keyV
    simp only [List.nil_append, List.length_nil] at this
    rw [← this]; rfl
theorem wrapOk_rel {E : Env} {ok b : Bool} {a r : AV D.τ} {v : Value} (h : wrapOk D ok a b = some r) (hv : AVRel D E a v) : AVRel D E r (if ok then .tuple #[v, .bool b] else v) := by
  unfold wrapOk at h
  split at h
  · cases ok <;> simp only [cond_true, cond_false, Option.some.injEq] at h <;> subst h
    · exact hv
    · exact ⟨[v, .bool b], rfl, _, _, rfl, hv, _, _, rfl, ⟨rfl, rfl⟩, rfl⟩
  · cases h
theorem zero_val {E : Env} {t : TypeId} {agg : Bool} {zs : List (Part D.τ)} {a : AV D.τ} (hz : zeroParts P t = some zs) (ha : (bif zeroAgg P t == agg then mkAV agg zs else none) = some a) (w : World) : ∃ z, (zeroValue t).run P w = .ok z w ∧ AVRel D E a z := by
  obtain ⟨i, z, hi, hiz, hp⟩ := zeroParts_spec (P := P) hz
  have hrun : (zeroValue t).run P w = .ok z w := by simp [zeroValue, typeInfo, hi, hiz]
  refine ⟨z, hrun, ?_⟩
  cases hb : (zeroAgg P t == agg) <;> simp only [hb, cond_true, cond_false] at ha
  · cases ha
  have hag : zeroAgg P t = agg := eq_of_beq hb
  refine mkAV_val ha ?_
  have hpz := hp E
  unfold zeroAgg at hag
  rw [hi, Option.bind_some, hiz] at hag
  split at hag
  · rename_i cs e
    simp only [Option.some.injEq] at e
    subst e
    subst hag
    exact ⟨cs.toList, by simp, hpz⟩
  · rename_i hne
    subst hag
    have hone : z.cells = #[z] := by
      cases z <;> first | rfl | exact absurd rfl (hne _)
    rw [hone] at hpz
    exact ⟨hpz.oneCell z (by simp), hpz⟩
theorem settled_run {α : Type} {k b : Nat} {fd : FamD D.τ} {es : List (Rec × Ob)} {out : Option (Rec × List (Part D.τ))} {f : List (Nat × BoxSt D.τ) → List (Rec × Ob) → List Prop → Rd D.τ α} {S : St D.τ} {r : α} {l : List Ref}
    (h : (settled D k b fd es out f).run S = some (r, l)) : ∃ us es' qs l', (f us es' qs).run S = some (r, l') ∧ ((out = none ∧ us = [] ∧ es' = es ∧ qs = []) ∨ ∃ key ps l1, out = some (key, ps) ∧ (putBack D k b fd es key ps).run S = some ((us, es', qs), l1)) := by
  unfold settled at h
  split at h
  · exact ⟨[], es, [], l, h, .inl ⟨rfl, rfl, rfl, rfl⟩⟩
  · rename_i key ps
    obtain ⟨⟨us, es', qs⟩, l1, l2, h1, h2⟩ := bind_run h
    exact ⟨us, es', qs, l2, h2, .inr ⟨key, ps, l1, rfl, h1⟩⟩
theorem settled_sound {M : Mem} {w0 : World} {σ : Loc} {ν : Nat → Value} {S : St D.τ} {w : World} (hR : RR D M w0 σ ν S w) {b k : Nat} {es : List (Rec × Ob)} {out : Option (Rec × List (Part D.τ))} {fd : FamD D.τ} (hbx : S.box b = .fam k es out) (hfd : D.fam k = some fd)
    {us : List (Nat × BoxSt D.τ)} {es' : List (Rec × Ob)} {qs : List Prop} (hq : AllQ qs) (h : (out = none ∧ us = [] ∧ es' = es ∧ qs = []) ∨ ∃ key ps l1, out = some (key, ps) ∧ (putBack D k b fd es key ps).run S = some ((us, es', qs), l1)) :
    ∃ φ, RR D M w0 ⟨σ.f, σ.zw, σ.zm, φ⟩ ν (S.bx (us ++ [(b, .fam k es' none)])) w ∧ (S.env D M w0 σ ν).le ((S.bx (us ++ [(b, .fam k es' none)])).env D M w0 ⟨σ.f, σ.zw, σ.zm, φ⟩ ν) ∧
      (∀ c, S.box c = .un → (S.bx (us ++ [(b, .fam k es' none)])).box c = .un) := by
  rcases h with ⟨rfl, rfl, rfl, rfl⟩ | ⟨key, ps, l1, rfl, h⟩
  · have hS : S.bx ([] ++ [(b, .fam k es' none)]) = S := by
      show S.upd (.box b (.fam k es' none)) = S
      obtain ⟨sl, bx, nt, np⟩ := S
      unfold St.upd
      simp only [St.mk.injEq, true_and, and_true]
      funext i
      by_cases hi : i = b
      · subst hi; rw [Nat.beq_refl]; exact hbx.symm
      · rw [beq_ne hi]; rfl
    rw [hS]
    exact ⟨σ.φ, hR, ⟨fun _ h => h, fun _ _ => rfl, fun _ _ => rfl, rfl, rfl, ⟨rfl, rfl⟩, fun g hg => ⟨hg, rfl⟩⟩, fun c hc => hc⟩
  · exact putBack_sound hR hbx hfd h hq
theorem bx_app (us vs : List (Nat × BoxSt D.τ)) (S : St D.τ) : S.bx (us ++ vs) = (S.bx us).bx vs := by
  induction us generalizing S with
  | nil => rfl
  | cons u us ih => exact ih (S.upd (.box u.1 u.2))
theorem bx_again (us vs : List (Nat × BoxSt D.τ)) (S : St D.τ) (b : Nat) (s t : BoxSt D.τ) : S.bx (us ++ ((b, s) :: vs)) = (S.bx (us ++ [(b, t)])).bx ((b, s) :: vs) := by
  rw [bx_app, bx_app, bx_one]
  show ((S.bx us).upd (.box b s)).bx vs = (((S.bx us).upd (.box b t)).upd (.box b s)).bx vs
  rw [upd_twice]
theorem sound_lookup (Γ : Gam D) (nid : Nat) (dst : Option Tmp) (t : TypeId) (x y : Operand) (ok : Bool) : Sound P D (oLookup P D Γ nid dst t x y ok) (fun ρ => do pure (.value (← Instr.lookup t (ρ x) (ρ y) ok))) := by
  intro S r l h hps M w0 a w ⟨σ, ν, hR, hA⟩
  unfold oLookup at h
  obtain ⟨av, l0, hav, h⟩ := rdA_run h
  split at h
  case h_2 => simp at h
  rename_i b
  obtain ⟨_, hal, hxv⟩ := evalA_rel hA hav
  simp only [List.cons.injEq, and_true] at hxv
  have hxv : a.eval x = .map (some (σ b)) := hxv
  obtain ⟨kav, l1, hkav, h⟩ := rdA_run h
  have hkr := evalA_rel hA hkav
  split at h
  case h_2 => simp at h
  rename_i kps hkps
  obtain ⟨l2, h⟩ := box_run h
  split at h
  case h_2 => simp at h
  rename_i k es out hbx
  split at h
  case h_2 => simp at h
  rename_i fd hfd
  generalize hff : (famFits P D fd t && (fd.kagg == isAggA kav)) = ff at h
  cases ff <;> simp only [cond_true, cond_false, run_fail] at h
  simp only [Bool.and_eq_true, beq_iff_eq] at hff
  obtain ⟨hrow, ht, hvagg, _⟩ := famFits_spec hff.1
  split at h
  case h_2 => simp at h
  rename_i key hkey
  have hkv : ∀ (hk : keyOK fd.ksh key = true), a.eval y = keyV fd.kagg fd.ksh key := fun hk => key_eval hkps hkey hk hkr hff.2
  split at h
  · split at h
    case h_2 => simp at h
    rename_i zs hzs
    split at h
    case h_2 => simp at h
    rename_i za hza
    split at h
    case h_2 => simp at h
    rename_i rv hrv
    simp only [run_ret] at h
    obtain ⟨rfl, _⟩ := h
    have hK : KeyT P fd.kt fd.kagg fd.ksh := hps _ (by simp)
    have hk : keyOK fd.ksh key = true := hps (keyOK fd.ksh key = true) (by simp)
    have hh : hasE es key = false := hps (hasE es key = false) (by simp)
    have hold := hR.boxes b
    rw [hbx] at hold
    obtain ⟨fd', hfd', vs, Fs, q3, _⟩ := hold
    rw [hfd] at hfd'
    simp only [Option.some.injEq] at hfd'
    subst hfd'
    rw [cont_map hrow] at q3
    obtain ⟨z, hz1, hz2⟩ := zero_val (E := S.env D M w0 σ ν) hzs hza w
    have hrun := (look_run q3 ht hK hk ok).1 hh z hz1
    refine upTo_val (w' := w) (v := if ok then .tuple #[z, .bool false] else z) ?_ (lands_pure hR hA (wrapOk_rel hrv hz2))
    rw [hxv, hkv hk]
    exact hrun
  · obtain ⟨us, es', qs, l3, h, hset⟩ := settled_run h
    obtain ⟨⟨l4, h⟩, hun⟩ := rdUn_run h
    split at h
    case h_2 => simp at h
    rename_i ps bs hps' hbs
    split at h
    case h_2 => simp at h
    rename_i va hva
    split at h
    case h_2 => simp at h
    rename_i rv hrv
    simp only [run_ret] at h
    obtain ⟨rfl, _⟩ := h
    have hK : KeyT P fd.kt fd.kagg fd.ksh := hps _ (by simp)
    have hk : keyOK fd.ksh key = true := hps (keyOK fd.ksh key = true) (by simp)
    have hh : hasE es' key = true := hps (hasE es' key = true) (by simp)
    have hqs : AllQ qs := fun p hp => hps p (by simp [hp])
    obtain ⟨φ, hR1, hle1, hun1⟩ := settled_sound hR hbx hfd hqs hset
    have hbx1 : (S.bx (us ++ [(b, .fam k es' none)])).box b = .fam k es' none := by
      rw [bx_app, bx_one, upd_box_same]
    obtain ⟨σ', ν', vs, q3, hvl, _, _, hR2, hle2, hval⟩ := takeOut_sound hR1 hbx1 hfd (fun i hi => hun1 _ (hun i hi)) hps' hbs hh
    have q3 := (cont_map hrow).1 q3
    obtain ⟨i0, hi0, hi0l, hi0e, _, _⟩ := has_idx hh
    obtain ⟨v0, hv0⟩ : ∃ v, vs[i0]? = some v := ⟨_, List.getElem?_eq_getElem (by omega)⟩
    have hrun := (look_run (P := P) q3 ht hK hk ok).2 i0 v0 hi0 hv0
    have hv := hval i0 v0 hi0e hv0
    have hA1 := hA.mono hle1 (bx_slot _ S).1 (bx_slot _ S).2
    have hA2 := hA1.mono hle2 (bx_slot _ _).1 (bx_slot _ _).2
    refine upTo_val (w' := w) (v := if ok then .tuple #[v0, .bool true] else v0) ?_ ?_
    · rw [hxv, hkv hk]
      exact hrun
    · unfold Lands
      simp only
      rw [bx_again us _ S b _ (.fam k es' none)]
      exact ⟨σ', ν', hR2, hA2, wrapOk_rel hrv (mkAV_val hva hv)⟩
  · split at h
    case h_2 => simp at h
    rename_i key' ps
    split at h
    case h_2 => simp at h
    rename_i va hva
    split at h
    case h_2 => simp at h
    rename_i rv hrv
    simp only [run_ret] at h
    obtain ⟨rfl, _⟩ := h
    have hK : KeyT P fd.kt fd.kagg fd.ksh := hps _ (by simp)
    have hk : keyOK fd.ksh key = true := hps (keyOK fd.ksh key = true) (by simp)
    have hkk : key = key' := hps (key = key') (by simp)
    subst hkk
    have hold := hR.boxes b
    rw [hbx] at hold
    obtain ⟨fd', hfd', vs, Fs, q3, q4, q5, q6, q7, q8, q9, _⟩ := hold
    rw [hfd] at hfd'
    simp only [Option.some.injEq] at hfd'
    subst hfd'
    rw [cont_map hrow] at q3
    obtain ⟨i0, hi0, hi0l, hi0e, _, _⟩ := has_idx (q8 key ps rfl)
    obtain ⟨v0, hv0⟩ : ∃ v, vs[i0]? = some v := ⟨_, List.getElem?_eq_getElem (by omega)⟩
    have hval : ValRel D (S.env D M w0 σ ν) fd.vagg ps v0 := by
      rcases q9 i0 _ _ _ hi0e hv0 with ⟨ps', e1, e2⟩ | ⟨e1, _⟩
      · simp only [Option.some.injEq, Prod.mk.injEq, true_and] at e1
        subst e1; exact e2
      · exact (e1 ps rfl).elim
    have hrun := (look_run (P := P) q3 ht hK hk ok).2 i0 v0 hi0 hv0
    refine upTo_val (w' := w) (v := if ok then .tuple #[v0, .bool true] else v0) ?_ (lands_pure hR hA (wrapOk_rel hrv (mkAV_val hva hval)))
    rw [hxv, hkv hk]
    exact hrun
theorem setMap_grown {w : World} {r : Nat} (o : Obj) : w.grownBy { w with heap := w.heap.setIfInBounds r o } (some r) :=
  ⟨rfl, rfl, rfl, by simp, fun k _ hk => by
    show (w.heap.setIfInBounds r o)[k]? = _
    rw [Array.getElem?_setIfInBounds]
    split
    · rename_i e; exact absurd (by rw [e]) hk
    · rfl⟩
theorem setMap_at {w : World} {r : Nat} {o : Obj} (h : r < w.heap.size) : ({ w with heap := w.heap.setIfInBounds r o } : World).heap[r]? = some o := by
  show (w.heap.setIfInBounds r o)[r]? = _
  rw [Array.getElem?_setIfInBounds]
  simp [h]
theorem modify_key {l : List MapEntry} {i : Nat} {e0 : MapEntry} {v : Value} (hi : l[i]? = some e0) (key : Value) (hk : e0.key = key) :
    (l.modify i fun e => { e with key := key, val := v }).map (·.key) = l.map (·.key) ∧ (l.modify i fun e => { e with key := key, val := v }).map (·.val) = (l.map (·.val)).set i v ∧ (l.modify i fun e => { e with key := key, val := v }).map (·.born) = l.map (·.born) := by
  refine ⟨?_, ?_, ?_⟩
  · apply List.ext_getElem?
    intro j
    simp only [List.getElem?_map, List.getElem?_modify]
    by_cases hj : i = j
    · subst hj; simp [hi, hk]
    · simp [hj]
  · apply List.ext_getElem?
    intro j
    simp only [List.getElem?_map, List.getElem?_modify, List.getElem?_set]
    by_cases hj : i = j
    · subst hj
      have := (List.getElem?_eq_some_iff.1 hi).1
      simp [this]
    · simp [hj]
  · apply List.ext_getElem?
    intro j
    simp only [List.getElem?_map, List.getElem?_modify]
    by_cases hj : i = j
    · subst hj; simp [hi]
    · simp [hj]
theorem update_run {fd : FamD D.τ} {t : TypeId} {w : World} {r : Nat} {es : List (Rec × Ob)} {vs : List Value} (hm : MapAt fd w r (es.map (·.1)) vs) (ht : P.underlying t = some (.map fd.kt fd.vt)) (hK : KeyT P fd.kt fd.kagg fd.ksh) {key : Rec} (hk : keyOK fd.ksh key = true) (v : Value) (o : Ob) :
    ∃ w' vs', (Instr.mapUpdate t (.map (some r)) (keyV fd.kagg fd.ksh key) v).run P w = .ok () w' ∧ w.grownBy w' (some r) ∧ MapAt fd w' r ((setE es key o).map (·.1)) vs' ∧
      match (es.map (·.1)).findIdx? (· == key) with
      | some i => vs' = vs.set i v
      | none => vs' = vs ++ [v] := by
  obtain ⟨ens, clock, h1, h2, h3, h4, h5⟩ := hm
  obtain ⟨k1, k2, k3⟩ := hK w key hk
  have k2' := k2 ens.toList _ h2 h5
  have hlt : r < w.heap.size := (Array.getElem?_eq_some_iff.1 h1).1
  have hf := find_ks (key := key) es
  cases hfi : (es.map (·.1)).findIdx? (· == key) with
  | none =>
    rw [hfi] at k2' hf
    obtain ⟨f1, f2, f3, f4⟩ := hf
    refine ⟨{ w with heap := w.heap.setIfInBounds r (.map (ens.push { key := keyV fd.kagg fd.ksh key, val := v, born := clock }) (clock + 1)) }, vs ++ [v], ?_, setMap_grown _, ⟨_, _, setMap_at hlt, ?_, ?_, ⟨?_, ?_⟩, ?_⟩, rfl⟩
    · simp [Instr.mapUpdate, run_underlying ht, MapKept.run_getObj_map h1, k1, k2', MapKept.run_setObj_map _ h1, Result.andThen]
    · rw [Array.toList_push, List.map_append, h2, f2, List.map_append, List.map_append]; rfl
    · rw [Array.toList_push, List.map_append, h3]; rfl
    · rw [Array.toList_push, List.map_append, List.pairwise_append]
      refine ⟨h4.1, by simp, fun a ha b hb => ?_⟩
      obtain ⟨e, he, rfl⟩ := List.mem_map.1 ha
      simp only [List.map_cons, List.map_nil, List.mem_singleton] at hb
      subst hb
      exact h4.2 e he
    · intro e he
      rw [Array.toList_push] at he
      rcases List.mem_append.1 he with he | he
      · exact Nat.lt_succ_of_lt (h4.2 e he)
      · simp only [List.mem_singleton] at he
        subst he; exact Nat.lt_succ_self _
    · intro x hx
      rw [f2, List.map_append] at hx
      rcases List.mem_append.1 hx with hx | hx
      · exact h5 x hx
      · simp only [List.map_cons, List.map_nil, List.mem_singleton] at hx
        subst hx; exact hk
  | some i =>
    rw [hfi] at k2' hf
    obtain ⟨f0, ⟨ob, f1, f2⟩, f3, f4⟩ := hf
    have hel : ens.toList.length = es.length := by
      have := congrArg List.length h2
      simpa using this
    obtain ⟨e0, he0⟩ : ∃ e, ens.toList[i]? = some e := ⟨_, List.getElem?_eq_getElem (by omega)⟩
    have hek : e0.key = keyV fd.kagg fd.ksh key := by
      have := congrArg (fun l => l[i]?) h2
      simp only [List.getElem?_map, he0, f1, Option.map_some, Option.some.injEq] at this
      exact this
    simp only [he0, Option.map_some] at k2'
    have hge : ens[i]? = some e0 := by rw [← Array.getElem?_toList]; exact he0
    obtain ⟨m1, m2, m3⟩ := modify_key (v := v) he0 _ hek
    have hks := k3 key hk rfl
    refine ⟨{ w with heap := w.heap.setIfInBounds r (.map (ens.modify i fun e => { e with key := keyV fd.kagg fd.ksh key, val := v }) clock) }, vs.set i v, ?_, setMap_grown _, ⟨_, _, setMap_at hlt, ?_, ?_, ⟨?_, ?_⟩, ?_⟩, rfl⟩
    · simp [Instr.mapUpdate, run_underlying ht, MapKept.run_getObj_map h1, k1, k2', hge, hek, hks, MapKept.run_setObj_map _ h1, Result.andThen]
    · rw [Array.toList_modify, m1, h2, f3, List.map_set, List.map_set]
      refine (List.set_getElem?_self' ?_).symm
      rw [List.getElem?_map, List.getElem?_map, f1]; rfl
    · rw [Array.toList_modify, m2, h3]
    · rw [Array.toList_modify, m3]; exact h4.1
    · intro e he
      rw [Array.toList_modify] at he
      have : e.born ∈ ens.toList.map (·.born) := by rw [← m3]; exact List.mem_map.2 ⟨e, he, rfl⟩
      obtain ⟨e', h1', h2'⟩ := List.mem_map.1 this
      rw [← h2']; exact h4.2 e' h1'
    · intro x hx
      rw [f3, List.map_set] at hx
      rw [List.set_getElem?_self' (by rw [List.getElem?_map, f1]; rfl)] at hx
      exact h5 x hx
theorem S_upd {S : St D.τ} {b : Nat} {s : BoxSt D.τ} : ∀ c, (S.bx [(b, s)]).box c = if c = b then s else if c ∈ ([] : List Nat) then .dead else S.box c := by
  intro c
  show (S.upd (.box b s)).box c = _
  by_cases h : c = b
  · subst h; rw [upd_box_same]; simp
  · rw [upd_box_other S s h]; simp [h]
theorem update_lands {M : Mem} {w0 : World} {σ : Loc} {ν : Nat → Value} {S : St D.τ} {a : Act} {w : World} (hR : RR D M w0 σ ν S w) (hA : RA D M w0 σ ν S a) {b k : Nat} {es : List (Rec × Ob)} {out out' : Option (Rec × List (Part D.τ))} {fd : FamD D.τ} {key : Rec} {ob : Ob}
    (hbx : S.box b = .fam k es out) (hfd : D.fam k = some fd) (hrow : fd.row = false) {t : TypeId} (ht : P.underlying t = some (.map fd.kt fd.vt)) (hK : KeyT P fd.kt fd.kagg fd.ksh) (hk : keyOK fd.ksh key = true) {v : Value}
    (hout : ∀ x ps, out = some (x, ps) → key = x) (hout' : ∀ x ps, out' = some (x, ps) → key = x) (hnew : EntRel D (XK D k) fd (S.env D M w0 σ ν) w out' key ob v (fun _ => False)) {qs : List Prop} :
    ∃ w', (Instr.mapUpdate t (.map (some (σ b))) (keyV fd.kagg fd.ksh key) v).run P w = .ok () w' ∧ Lands M w0 S a ⟨.tup [], [(b, .fam k (setE es key ob) out')], qs⟩ undef w' := by
  have hold := hR.boxes b
  rw [hbx] at hold
  obtain ⟨fd', hfd', vs, Fs, q3, q4, q5, q6, q7, q8, q9, q10, q11⟩ := hold
  rw [hfd] at hfd'
  simp only [Option.some.injEq] at hfd'
  subst hfd'
  rw [cont_map hrow] at q3
  obtain ⟨w', vs', hrun, hg, hm, hvs⟩ := update_run q3 ht hK hk v ob
  refine ⟨w', hrun, ?_⟩
  have hcb : σ.φ b (σ b) := q7 _ (by unfold IsCont; rw [hrow]; rfl)
  have hf := find_ks (key := key) es
  obtain ⟨i0, hi00⟩ : ∃ i0, i0 = (match (es.map (·.1)).findIdx? (· == key) with | some i => i | none => es.length) := ⟨_, rfl⟩
  have hle0 : (S.env D M w0 σ ν).le ((S.bx [(b, .fam k (setE es key ob) out')]).env D M w0 ⟨σ.f, σ.zw, σ.zm, setN σ.φ b (σ.φ b)⟩ ν) := by
    refine ⟨fun c h => ?_, fun _ _ => rfl, fun _ _ => rfl, rfl, rfl, ⟨rfl, rfl⟩, fun g hg => ⟨hg, rfl⟩⟩
    show ((S.bx [(b, .fam k (setE es key ob) out')]).box c).al
    rw [S_upd]
    by_cases hc : c = b
    · rw [if_pos hc]; trivial
    · rw [if_neg hc, if_neg (by simp)]; exact h
  have hw : ∀ i g, Fs i g → w'.heap[g]? = w.heap[g]? := fun i g hg' => hg.block g (q6 g (q10 i g hg').1) (fun e => by
    simp only [Option.some.injEq] at e
    exact (q10 i g hg').2 (by unfold IsCont; rw [hrow]; exact e.symm))
  have hold2 : ∀ (i : Nat) key' ob' v', key' ≠ key → es[i]? = some (key', ob') → vs[i]? = some v' → EntRel D (XK D k) fd ((S.bx [(b, .fam k (setE es key ob) out')]).env D M w0 ⟨σ.f, σ.zw, σ.zm, setN σ.φ b (σ.φ b)⟩ ν) w' out' key' ob' v' (Fs i) := by
    intro i key' ob' v' hne hi hv
    rcases q9 i _ _ _ hi hv with ⟨ps, e1, _⟩ | ⟨_, e2⟩
    · exact (hne (hout _ _ e1).symm).elim
    · refine .inr ⟨fun ps e => hne (hout' _ _ e).symm, ?_⟩
      exact (e2.mono (XK_stays k) (Loc.le_refl σ) fun g hg => hw i g hg).zone rfl rfl
  have hnew2 : EntRel D (XK D k) fd ((S.bx [(b, .fam k (setE es key ob) out')]).env D M w0 ⟨σ.f, σ.zw, σ.zm, setN σ.φ b (σ.φ b)⟩ ν) w' out' key ob v (fun _ => False) := by
    rcases hnew with ⟨ps, e1, e2⟩ | ⟨e1, e2⟩
    · exact .inl ⟨ps, e1, e2.mono hle0⟩
    · exact .inr ⟨e1, (e2.mono (XK_stays k) (Loc.le_refl σ) fun g hg => hg.elim).zone rfl rfl⟩
  have hbox : BoxRel D ((S.bx [(b, .fam k (setE es key ob) out')]).env D M w0 ⟨σ.f, σ.zw, σ.zm, setN σ.φ b (σ.φ b)⟩ ν) w' b (.fam k (setE es key ob) out') := by
    have hnd : ((setE es key ob).map (·.1)).Nodup ∧ (setE es key ob).length = vs'.length := by
      cases hfi : (es.map (·.1)).findIdx? (· == key) with
      | none =>
        rw [hfi] at hf hvs
        obtain ⟨f1, f2, f3, f4⟩ := hf
        rw [f2, hvs, List.map_append, List.nodup_append]
        refine ⟨⟨q4, by simp, fun a ha c hc => ?_⟩, by simp [q5]⟩
        simp only [List.map_cons, List.map_nil, List.mem_singleton] at hc
        subst hc
        exact fun e => f4 (e ▸ ha)
      | some i =>
        rw [hfi] at hf hvs
        obtain ⟨f0, ⟨o1, f1, f2⟩, f3, f4⟩ := hf
        rw [f3, hvs, List.map_set, List.set_getElem?_self' (by rw [List.getElem?_map, f1]; rfl)]
        exact ⟨q4, by simp [q5]⟩
    refine ⟨fd, hfd, vs', setN Fs i0 (fun _ => False), by rw [cont_map hrow]; exact hm, hnd.1, hnd.2, fun g hg' => ?_, fun g hg' => ?_, fun x ps e => ?_, fun i key' ob' v' hi hv => ?_, fun i g hg' => ?_, fun i j g h1 h2 => ?_⟩
    · have hg2 : setN σ.φ b (σ.φ b) b g := hg'
      rw [setN_same] at hg2
      exact Nat.lt_of_lt_of_le (q6 g hg2) hg.size
    · show setN σ.φ b (σ.φ b) b g
      rw [setN_same]
      exact q7 g hg'
    · rw [← hout' x ps e]; exact has_set
    · cases hfi : (es.map (·.1)).findIdx? (· == key) with
      | none =>
        have hi0 : i0 = es.length := by rw [hi00, hfi]
        rw [hfi] at hf hvs
        obtain ⟨f1, f2, f3, f4⟩ := hf
        rw [f2] at hi
        rw [hvs] at hv
        by_cases hlt : i < es.length
        · rw [List.getElem?_append_left hlt] at hi
          rw [List.getElem?_append_left (by omega)] at hv
          rw [setN_other _ _ (by omega)]
          exact hold2 i key' ob' v' (fun e => f4 (List.mem_map.2 ⟨_, List.mem_of_getElem? hi, e⟩)) hi hv
        · have he : i = es.length := by
            have := (List.getElem?_eq_some_iff.1 hi).1
            simp at this; omega
          rw [he, List.getElem?_append_right (Nat.le_refl _), Nat.sub_self] at hi
          rw [he, List.getElem?_append_right (by omega), show es.length - vs.length = 0 from by omega] at hv
          simp only [List.getElem?_cons_zero, Option.some.injEq, Prod.mk.injEq] at hi hv
          obtain ⟨rfl, rfl⟩ := hi
          subst hv
          rw [he, ← hi0, setN_same]
          exact hnew2
      | some j =>
        have hi0 : i0 = j := by rw [hi00, hfi]
        rw [hfi] at hf hvs
        obtain ⟨f0, ⟨o1, f1, f2⟩, f3, f4⟩ := hf
        rw [f3] at hi
        rw [hvs] at hv
        by_cases hij : i = j
        · subst hij
          rw [List.getElem?_set_self f0] at hi
          rw [List.getElem?_set_self (by omega)] at hv
          simp only [Option.some.injEq, Prod.mk.injEq] at hi hv
          obtain ⟨rfl, rfl⟩ := hi
          subst hv
          rw [← hi0, setN_same]
          exact hnew2
        · rw [List.getElem?_set_ne (fun e => hij e.symm)] at hi hv
          rw [setN_other _ _ (by omega)]
          exact hold2 i key' ob' v' (fun e => by subst e; exact hij (nodup_idx q4 hi f1)) hi hv
    · show setN σ.φ b (σ.φ b) b g ∧ ¬ IsCont D fd (S.env D M w0 σ ν) b g
      rw [setN_same]
      by_cases hii : i = i0
      · rw [hii, setN_same] at hg'; exact hg'.elim
      · rw [setN_other _ _ hii] at hg'
        exact q10 i g hg'
    · by_cases hii : i = i0
      · rw [hii, setN_same] at h1; exact h1.elim
      · by_cases hjj : j = i0
        · rw [hjj, setN_same] at h2; exact h2.elim
        · rw [setN_other _ _ hii] at h1
          rw [setN_other _ _ hjj] at h2
          exact q11 i j g h1 h2
  obtain ⟨r1, r2⟩ := RR.fam (S' := S.bx [(b, .fam k (setE es key ob) out')]) hR hbx (old := []) (by simp) S_upd (bx_np _ S) (F := σ.φ b) (fun g h => .inl h) (w' := w') hbox ⟨some (σ b), hg, fun g e => by
    simp only [Option.some.injEq] at e; rw [← e]; exact hcb⟩
  unfold Lands
  exact ⟨_, ν, r1, hA.mono r2 (bx_slot _ S).1 (bx_slot _ S).2, undef_rel⟩
theorem sound_update (t : TypeId) (x y z : Operand) : Sound P D (oUpdate P D t x y z) (fun ρ => do Instr.mapUpdate t (ρ x) (ρ y) (ρ z); pure .skip) := by
  intro S r l h hps M w0 a w ⟨σ, ν, hR, hA⟩
  unfold oUpdate at h
  obtain ⟨av, l0, hav, h⟩ := rdA_run h
  split at h
  case h_2 => simp at h
  rename_i b
  obtain ⟨_, hal, hxv⟩ := evalA_rel hA hav
  simp only [List.cons.injEq, and_true] at hxv
  have hxv : a.eval x = .map (some (σ b)) := hxv
  obtain ⟨kav, l1, hkav, h⟩ := rdA_run h
  have hkr := evalA_rel hA hkav
  obtain ⟨vav, l2, hvav, h⟩ := rdA_run h
  have hvr := evalA_rel hA hvav
  split at h
  case h_2 => simp at h
  rename_i kps vps hkps hvps
  obtain ⟨l3, h⟩ := box_run h
  split at h
  case h_2 => simp at h
  rename_i k es out hbx
  split at h
  case h_2 => simp at h
  rename_i fd hfd
  generalize hff : (famFits P D fd t && ((fd.kagg == isAggA kav) && (fd.vagg == isAggA vav))) = ff at h
  cases ff <;> simp only [cond_true, cond_false, run_fail] at h
  simp only [Bool.and_eq_true, beq_iff_eq] at hff
  obtain ⟨hrow, ht, hvagg, _⟩ := famFits_spec hff.1
  split at h
  case h_2 => simp at h
  rename_i key hkey
  have hval := val_parts hvps hvr
  rw [← hff.2.2] at hval
  have fin : ∀ {w' : World}, (Instr.mapUpdate t (a.eval x) (a.eval y) (a.eval z)).run P w = .ok () w' → Lands M w0 S a r undef w' → UpTo P (Lands M w0 S a r) ((do Instr.mapUpdate t (a.eval x) (a.eval y) (a.eval z); pure Next.skip : Sem Next).run P w) := by
    intro w' h1 h2
    simp only [Sem.run_bind, h1, Result.andThen_ok, Sem.run_pure, UpTo]
    exact h2
  generalize hz : Nat.beq fd.n 0 = bz at h
  cases bz <;> simp only [cond_true, cond_false] at h
  · obtain ⟨⟨ob, ids⟩, l4, l5, hi, h⟩ := bind_run h
    simp only [run_ret] at h
    obtain ⟨rfl, _⟩ := h
    have hK : KeyT P fd.kt fd.kagg fd.ksh := hps _ (by simp)
    have hk : keyOK fd.ksh key = true := hps (keyOK fd.ksh key = true) (by simp)
    have hout : ∀ x ps, out = some (x, ps) → key = x := by
      intro x ps e
      subst e
      exact hps (key = x) (by simp [outDuty])
    obtain ⟨w', h1, h2⟩ := update_lands (P := P) (out' := some (key, vps)) (ob := ob) hR hA hbx hfd hrow ht hK hk (v := a.eval z) hout (fun x ps e => by simp only [Option.some.injEq, Prod.mk.injEq] at e; exact e.1) (.inl ⟨vps, rfl, hval⟩)
      (qs := [KeyT P fd.kt fd.kagg fd.ksh, keyOK fd.ksh key = true] ++ outDuty key out)
    refine fin ?_ h2
    rw [hxv, key_eval hkps hkey hk hkr hff.2.1]
    exact h1
  · have hn0 := Nat.eq_of_beq_eq_true hz
    split at h
    case h_2 => simp at h
    obtain ⟨⟨ob, ids⟩, l4, l5, hi, h⟩ := bind_run h
    simp only at h
    split at h
    case h_2 => simp at h
    rename_i qs hqs
    split at h
    case h_2 => simp at h
    rename_i xs hxs hbxs
    simp only [run_ret] at h
    obtain ⟨rfl, _⟩ := h
    have hK : KeyT P fd.kt fd.kagg fd.ksh := hps _ (by simp)
    have hk : keyOK fd.ksh key = true := hps (keyOK fd.ksh key = true) (by simp)
    have hxq : AllQ xs := fun p hp => hps p (by simp [hp])
    have hobj : ObjRel D (XK D k) fd σ w ob (a.eval z) (fun _ => False) := by
      refine ⟨⟨σ.f, σ.zw, σ.zm, σ.φ⟩, ν, rfl, rfl, ?_, by rw [hbxs, hn0]; rfl, (fun i s hs => by rw [hbxs] at hs; simp at hs), (fun i j s t g hij hi => by rw [hbxs] at hi; simp at hi)⟩
      have hren : RenF (fun _ => none) (S.env D M w0 σ ν) (ienv ⟨σ.f, σ.zw, σ.zm, σ.φ⟩ ν fd.n) := ⟨(fun b c h => by cases h), (fun b c h => by cases h), (fun b c h => by cases h), fun g hg => ⟨hg, rfl⟩⟩
      have h1 := hval.ren hren hqs
      have hid : Ren [] (ienv (⟨σ.f, σ.zw, σ.zm, σ.φ⟩ : Loc) ν fd.n) (ienv ⟨σ.f, σ.zw, σ.zm, σ.φ⟩ ν fd.n) := ⟨(fun b c h => by cases h), (fun b c h => by cases h), (fun b c h => by cases h), (fun b c h => by cases h), (fun b h => by cases h), rfl, rfl, ⟨rfl, rfl⟩⟩
      cases hagg : fd.vagg with
      | true => rw [hagg] at h1; obtain ⟨cs, e, hp⟩ := h1; exact ⟨cs, e, fitPs_sound hid hxs hxq hp⟩
      | false => rw [hagg] at h1; exact ⟨h1.1, fitPs_sound hid hxs hxq h1.2⟩
    obtain ⟨w', h1, h2⟩ := update_lands (P := P) (out' := none) (ob := ob) hR hA hbx hfd hrow ht hK hk (v := a.eval z) (fun x ps e => by cases e) (fun x ps e => by cases e) (.inr ⟨(fun ps e => by cases e), hobj⟩)
      (qs := [KeyT P fd.kt fd.kagg fd.ksh, keyOK fd.ksh key = true] ++ xs)
    refine fin ?_ h2
    rw [hxv, key_eval hkps hkey hk hkr hff.2.1]
    exact h1
theorem sound_delete (x y : Operand) (t u ty : TypeId) : Sound P D (oDelete P D x y t) (fun ρ => valOf (Builtin.delete_ #[t, u] ty #[ρ x, ρ y])) := fun _ _ _ h => (run_fail.1 h).elim
theorem sound_makeMap (nid : Nat) (t : TypeId) (o : Option Operand) : Sound P D (oMakeMap P D nid t o) (fun ρ => do pure (.value (← Instr.makeMap t (o.map ρ)))) := by
  intro S r l h hps M w0 a w ⟨σ, ν, hR, hA⟩
  unfold oMakeMap at h
  split at h
  · simp at h
  obtain ⟨l1, h⟩ := box_run h
  split at h
  case h_2 => simp at h
  rename_i hun
  split at h
  case h_2 => simp at h
  rename_i k hk
  split at h
  case h_2 => simp at h
  rename_i fd hfd
  generalize hff : famFits P D fd t = ff at h
  cases ff <;> simp only [cond_true, cond_false, run_fail] at h
  simp only [run_ret] at h
  obtain ⟨rfl, _⟩ := h
  obtain ⟨hrow, ht, _⟩ := famFits_spec hff
  have hrun : (Instr.makeMap t none).run P w = .ok (.map (some w.heap.size)) (w.alloc (.map #[] 0)) := by
    simp [Instr.makeMap]
  refine upTo_val (v := .map (some w.heap.size)) (w' := w.alloc (.map #[] 0)) hrun ?_
  unfold Lands
  simp only [bx_one]
  let σ' : Loc := ⟨fun i => if i = nid then w.heap.size else σ.f i, σ.zw, σ.zm, setN σ.φ nid (fun g => g = w.heap.size)⟩
  have hσn : σ' nid = w.heap.size := by show (if nid = nid then _ else _) = _; rw [if_pos rfl]
  have hσo : ∀ c, c ≠ nid → σ' c = σ c := fun c h => by show (if c = nid then _ else _) = _; rw [if_neg h]
  have hle : (S.env D M w0 σ ν).le ((S.upd (.box nid (.fam k [] none))).env D M w0 σ' ν) := env_le_box hun hσo (fun _ _ => rfl) (fun g hg => ⟨hg, rfl⟩)
  have hFp : ∀ g, Fp D ((S.upd (.box nid (.fam k [] none))).env D M w0 σ' ν) nid ((S.upd (.box nid (.fam k [] none))).box nid) g → g = w.heap.size := by
    intro g hg
    rw [upd_box_same] at hg
    have : setN σ.φ nid (fun g => g = w.heap.size) nid g := hg
    rwa [setN_same] at this
  refine ⟨σ', ν, hR.step hle (· = nid) ?_ ?_ ?_ ?_ (hR.kept.alloc _) rfl (hR.zk_grown (World.grownBy_alloc _ _ none) (by simp)) ?_ (fun b g _ h _ => hR.zd b g h) (fun g h => .inl h) (fun c hc => setN_other _ _ hc), hA.mono hle rfl rfl, ?_⟩
  · rintro b rfl
    rw [upd_box_same]
    refine ⟨fd, hfd, [], fun _ _ => False, ?_, by simp, rfl, fun g hg => ?_, fun g hg => ?_, (fun x ps e => by cases e), fun i key ob v hi => by simp at hi, fun i g hg => hg.elim, fun i j g h => h.elim⟩
    · rw [cont_map hrow]
      refine ⟨#[], 0, ?_, rfl, rfl, ⟨by simp, by simp⟩, by simp⟩
      show (w.alloc _).heap[σ' b]? = _
      rw [hσn]
      exact Go.heap_alloc_new w _
    · have : setN σ.φ b (fun g => g = w.heap.size) b g := hg
      rw [setN_same] at this
      subst this; simp
    · show setN σ.φ b (fun g => g = w.heap.size) b g
      rw [setN_same]
      have h2 : IsCont D fd ((S.upd (.box b (.fam k [] none))).env D M w0 σ' ν) b g := hg
      unfold IsCont at h2
      rw [hrow] at h2
      rw [← h2]; exact hσn
  · intro b hb
    exact .inl ⟨upd_box_other S _ hb, fun g hg => Go.heap_alloc_old w _ (blk_lt hR hg)⟩
  · rintro b b' g rfl hne h1 h2
    have h1' := hFp g h1
    rw [upd_box_other S _ (Ne.symm hne)] at h2
    have h3 : Fp D (S.env D M w0 σ ν) b' (S.box b') g := (fp_same (E := S.env D M w0 σ ν) (F := (S.upd (.box b (.fam k [] none))).env D M w0 σ' ν) (hσo b' (Ne.symm hne)) rfl (setN_other _ _ (Ne.symm hne))).1 h2
    have := blk_lt hR h3
    omega
  · rintro b g rfl h
    have h1' := hFp g h
    exact .inl (by have := hR.kept.size; omega)
  · rintro b g rfl h hz
    have h1' := hFp g h
    have := (hR.zk g hz).1
    omega
  · refine ⟨rfl, ?_, ?_⟩
    · show ((S.upd (.box nid (.fam k [] none))).box nid).al
      rw [upd_box_same]; trivial
    · show [Value.map (some w.heap.size)] = [Value.map (some (σ' nid))]
      rw [hσn]
theorem sound_lenM (x : Operand) (t ty : TypeId) : Sound P D (oLenM P D x t) (fun ρ => valOf (Builtin.len_ #[t] ty #[ρ x])) := by
  intro S r l h hps M w0 a w hRA
  unfold oLenM at h
  obtain ⟨av, l0, hav, h⟩ := rdA_run h
  split at h
  · rename_i b
    split at h
    case h_2 => simp at h
    rename_i kt vt ht
    obtain ⟨l1, h⟩ := box_run h
    split at h
    case h_2 => simp at h
    rename_i k es out hbx
    split at h
    case h_2 => simp at h
    rename_i fd hfd
    generalize hrow : fd.row = rw0 at h
    cases rw0 <;> simp only [cond_true, cond_false, run_fail] at h
    have hr := ok1_run h
    subst hr
    obtain ⟨σ, ν, hR, hA⟩ := hRA
    obtain ⟨_, hal, hxv⟩ := evalA_rel hA hav
    simp only [List.cons.injEq, and_true] at hxv
    have hxv : a.eval x = .map (some (σ b)) := hxv
    have hold := hR.boxes b
    rw [hbx] at hold
    obtain ⟨fd', hfd', vs, Fs, q3, q4, q5, _⟩ := hold
    rw [hfd] at hfd'
    simp only [Option.some.injEq] at hfd'
    subst hfd'
    rw [cont_map hrow] at q3
    obtain ⟨ens, clock, h1, h2, h3, _⟩ := q3
    have hel : ens.size = es.length := by
      have := congrArg List.length h2
      simpa using this
    have h1 : w.heap[σ b]? = some (.map ens clock) := h1
    refine upTo_val (w' := w) (v := .int .i64 es.length) ?_ (lands_pure hR hA ⟨rfl, rfl⟩)
    rw [hxv]
    simp [Builtin.len_, run_underlying ht, MapKept.run_getObj_map h1, hel, Result.andThen]
    rfl
  · rename_i b
    obtain ⟨l1, h⟩ := box_run h
    split at h
    · rename_i e ll hbx
      split at h
      case h_2 => simp at h
      rename_i e' ht
      have hr := ok1_run h
      subst hr
      obtain ⟨σ, ν, hR, hA⟩ := hRA
      obtain ⟨hone, hal, h1c, hv⟩ := evalA_rel hA hav
      simp only [List.cons.injEq, and_true] at hv
      have hv' : a.eval x = ν b := hv
      have hb := hR.boxes b
      rw [hbx] at hb
      obtain ⟨n, xs, hown, hp, _⟩ := hb
      have hown' : w.ownsL 0 e 1 (ν b) n xs := hown
      have hn : ll.length = n := by have := hown'.1; rw [hp.2, List.length_map] at this; simpa using this
      subst hn
      refine upTo_val (w' := w) (v := .int .i64 ll.length) ?_ (lands_pure hR hA ⟨rfl, rfl⟩)
      rw [hv']
      rcases hown'.2 with ⟨hνe, h0⟩ | ⟨g, cap, cur, hνe, _⟩
      · rw [hνe, run_len_slice ht, h0]
      · rw [hνe, run_len_slice ht]
    · exact sound_lenR x t ty S r _ h hps M w0 a w hRA
  · exact sound_lenR x t ty S r _ h hps M w0 a w hRA
end
end Go.Abs
namespace Go.Abs
open Go.RowKit
section
variable {P : Program} {D : Dom}
theorem sound_build1 (nid : Nat) (t : TypeId) (len : Nat) (parts : Array (Nat × Operand)) : Sound P D (oBuild1 P D nid t len parts.toList) (fun ρ => do pure (.value (← Instr.buildSlice t len (parts.map fun (i, x) => (i, ρ x))))) := sound_buildC nid t len parts
theorem sound_append1 (nid : Nat) (x y : Operand) (t u ty : TypeId) : Sound P D (oAppend1 P D nid x y t u) (fun ρ => valOf (Builtin.append_ #[t, u] ty #[ρ x, ρ y])) := sound_appendR nid x y t u ty
theorem sound_len1 (x : Operand) (t ty : TypeId) : Sound P D (oLen1 P D x t) (fun ρ => valOf (Builtin.len_ #[t] ty #[ρ x])) := sound_lenM x t ty
theorem sound_indexAddr1 (t : TypeId) (x y : Operand) : Sound P D (oIndexAddr1 P D t x y) (fun ρ => do pure (.value (← Instr.indexAt t (ρ x) (ρ y)))) := sound_indexAddrC t x y
theorem sound_load1 (t : TypeId) (x : Operand) : Sound P D (oLoad1 P D t x) (fun ρ => do pure (.value (← Instr.loadAt t (ρ x)))) := sound_loadC t x
theorem sound_sliceE (Γ : Gam D) (nid : Nat) (dst : Option Tmp) (t : TypeId) (x : Operand) (lo hi : Option Operand) : Sound P D (oSliceE P D Γ nid dst t x lo hi) (fun ρ => do pure (.value (← Instr.sliceAt t (ρ x) (lo.map ρ) (hi.map ρ) none))) := sound_sliceR Γ nid dst t x lo hi
end
end Go.Abs
namespace Go.Abs
open Go.RowKit
section
variable {P : Program} {D : Dom}
theorem nils_rel {E : Env} : ∀ {m : List (Part D.τ)} {cs : List Value}, m.all nilPB = true → PartsRel D E m cs → cs = List.replicate m.length (.slice none 0 0)
  | [], cs, _, h => h
  | p :: m, cs, ha, h => by
    simp only [List.all_cons, Bool.and_eq_true] at ha
    obtain ⟨c1, c2, rfl, h1, h2⟩ := h
    have := nils_rel ha.2 h2
    cases p <;> simp only [nilPB, Bool.false_eq_true, false_and] at ha
    rw [show c1 = _ from h1, this]
    rfl
theorem ps_nil (σ : Loc) (sh : List FK) : PsRel σ sh [] (.slice none 0 0) := ⟨⟨none, 0, rfl, Nat.le_refl _, by unfold maxLen; omega, fun _ => rfl, fun i r h => by simp at h⟩, fun _ => rfl⟩
theorem packT_rel {E : Env} {t : TypeId} {ps : List (Part D.τ)} {cs : List Value} (h : PartsRel D E ps cs) : PartsRel D E (packT P D t ps) cs := by
  unfold packT
  split
  · rename_i off n _
    split
    · rename_i a m b hsp
      cases hm : m.all nilPB <;> simp only [cond_true, cond_false]
      · exact h
      · obtain ⟨c1, c2, c3, rfl, _, hl, h1, h2, h3⟩ := splitP_sound hsp h
        have e := nils_rel hm h2
        refine h1.append ⟨c2, c3, rfl, ⟨by simp, hl, fun i v hv => ?_⟩, h3⟩
        rw [e] at hv
        have hi := (List.getElem?_eq_some_iff.1 hv).1
        rw [List.length_replicate] at hi
        rw [List.getElem?_replicate, if_pos hi] at hv
        simp only [Option.some.injEq] at hv
        subst hv
        rw [show (List.replicate n ([] : List Rec)).getD i [] = [] from by rw [List.getD_eq_getElem?_getD, List.getElem?_replicate]; split <;> rfl]
        exact ps_nil _ _
    · exact h
  · exact h
theorem sound_boxP (nid : Nat) (t : TypeId) (x : Operand) : Sound P D (oBoxP P D nid t x) (fun ρ => do pure (.value (← Instr.box t (ρ x)))) := by
  intro S r l h _ M w0 a w ⟨σ, ν, hR, hA⟩
  unfold oBoxP at h
  obtain ⟨av, l0, hav, h⟩ := rdA_run h
  obtain ⟨l1, h⟩ := box_run h
  split at h
  · rename_i hun
    split at h
    · rename_i ps hps
      simp at h
      obtain ⟨rfl, _⟩ := h
      simp [Instr.box, newVar, newRow, UpTo]
      exact lands_fixed hR hA hun (packT_rel (partsOf_rel hps (evalA_rel hA hav)))
    · simp at h
  · simp at h
theorem prssOf_rel {E : Env} : ∀ {ps a r : List (Part D.τ)} {sh : List FK} {n : Nat} {l : List (List Rec)} {cs : List Value}, prssOf ps = some (a, sh, n, l, r) → PartsRel D E ps cs →
    ∃ c1 c2 c3, cs = c1 ++ (c2 ++ c3) ∧ c1.length = offP D a ∧ PartsRel D E a c1 ∧ PartRel D E (.prss sh n l) c2 ∧ PartsRel D E r c3
  | [], a, r, sh, n, l, cs, h, _ => by simp [prssOf] at h
  | p :: ps, a, r, sh, n, l, cs, h, hp => by
    unfold prssOf at h
    split at h
    · rename_i sh' n' l' ps' heq
      cases heq
      simp only [Option.some.injEq, Prod.mk.injEq] at h
      obtain ⟨rfl, rfl, rfl, rfl, rfl⟩ := h
      obtain ⟨c1, c2, rfl, h1, h2⟩ := hp
      exact ⟨[], c1, c2, rfl, rfl, rfl, h1, h2⟩
    · rename_i p' ps' _ heq
      cases heq
      split at h
      · rename_i a' r' hq
        simp only [Option.some.injEq, Prod.mk.injEq] at h
        obtain ⟨rfl, rfl⟩ := h
        obtain ⟨c1, c2, rfl, h1, h2⟩ := hp
        obtain ⟨d1, d2, d3, rfl, e1, e2, e3, e4⟩ := prssOf_rel hq h2
        refine ⟨c1 ++ d1, d2, d3, by simp, ?_, ⟨c1, d1, rfl, h1, e2⟩, e3, e4⟩
        rw [List.length_append, h1.len, e1]
        simp [offP]
      · cases h
    · cases ‹_ :: _ = []›
theorem sound_load6 (Γ : Gam D) (nid : Nat) (dst : Option Tmp) (t : TypeId) (x : Operand) : Sound P D (oLoad6 P D Γ nid dst t x) (fun ρ => do pure (.value (← Instr.loadAt t (ρ x)))) := by
  intro S r l h hps M w0 a w hRA
  unfold oLoad6 at h
  split at h
  · exact sound_load1 t _ S r _ h hps M w0 a w hRA
  · rename_i x' _
    obtain ⟨av, l0, hav, h1⟩ := rdA_run h
    clear h
    split at h1
    · rename_i b base N i
      obtain ⟨l1, h⟩ := box_run h1
      clear h1
      split at h
      · rename_i ty ps hbx
        split at h
        · rename_i p1 sh n ll p3 hpr
          split at h
          · rename_i hsz
            obtain ⟨σ, ν, hR, hA⟩ := hRA
            obtain ⟨hone, hal, hiN, hv⟩ := evalA_rel hA hav
            simp only [List.cons.injEq, and_true] at hv
            have hv' : a.eval x = .pointer (some ⟨σ b, base + i, none⟩) := hv
            cases hagg : aggB P t <;> simp only [hagg, cond_true, cond_false, run_fail] at h
            have hb := hR.boxes b
            rw [hbx] at hb
            obtain ⟨cs, hg, hp⟩ := hb
            have hg' : w.heap[σ b]? = some (.cells cs ty (0, 0)) := hg
            obtain ⟨c1, c2, c3, he, hl1, _, ⟨hl2, hl3, hc⟩, _⟩ := prssOf_rel hpr hp
            have key : offP D p1 ≤ base + i → base + i < offP D p1 + n → ∃ v, (loadVar t ⟨σ b, base + i, none⟩).run P w = .ok v w ∧ PsRel σ sh (ll.getD (base + i - offP D p1) []) v := by
              intro k1 k2
              obtain ⟨v, hv⟩ : ∃ v, c2[base + i - offP D p1]? = some v := ⟨_, List.getElem?_eq_getElem (by omega)⟩
              have hcell := cells_at (w := w) hg' he _ _ hv
              rw [Addr.add_lit, hl1, show offP D p1 + (base + i - offP D p1) = base + i from by omega] at hcell
              exact ⟨v, run_loadVar_one hsz hagg hcell, hc _ v hv⟩
            cases hn : nilAt D Γ dst <;> simp only [hn, cond_true, cond_false] at h
            · have hr := ok1_run h
              subst hr
              obtain ⟨v, k1, k2⟩ := key (hps _ (by simp)) (hps _ (by simp))
              refine upTo_load hv' k1 (lands_pure hR hA ⟨?_, v, rfl, k2.1⟩)
              obtain ⟨⟨ao, cap, e1, _⟩, _⟩ := k2
              rw [e1]; rfl
            · have hr := ok1_run h
              subst hr
              obtain ⟨v, k1, k2⟩ := key (hps _ (by simp)) (hps _ (by simp))
              have e : ll.getD (base + i - offP D p1) [] = [] := hps _ (by simp)
              have := k2.2 e
              subst this
              exact upTo_load hv' k1 (lands_pure hR hA ⟨rfl, rfl⟩)
          · simp at h
        · exact sound_load1 t _ S r _ h hps M w0 a w hRA
      · exact sound_load1 t _ S r _ h hps M w0 a w hRA
    · rename_i b i
      obtain ⟨l1, h⟩ := box_run h1
      clear h1
      split at h
      · rename_i k es out hbx
        split at h
        · rename_i fd hfd
          generalize hb : (fd.row && (!fd.vagg && !aggB P t)) = bb at h
          cases bb <;> simp only [cond_true, cond_false, run_fail] at h
          simp only [Bool.and_eq_true, Bool.not_eq_true'] at hb
          obtain ⟨hrow, hvagg, hagg⟩ := hb
          split at h
          · rename_i hsz
            obtain ⟨σ, ν, hR, hA⟩ := hRA
            obtain ⟨hone, hal, g, hg, hv⟩ := evalA_rel hA hav
            simp only [List.cons.injEq, and_true] at hv
            obtain ⟨us, es', qs, l3, h, hset⟩ := settled_run h
            obtain ⟨⟨l4, h⟩, hun⟩ := rdUn_run h
            split at h
            case h_2 => simp at h
            rename_i ps bs hps' hbs
            split at h
            case h_2 => simp at h
            rename_i va hva
            simp only [run_ret] at h
            obtain ⟨rfl, _⟩ := h
            have hh : hasE es' [.i i] = true := hps (hasE es' [.i i] = true) (by simp)
            have hqs : AllQ qs := fun p hp => hps p (by simp [hp])
            obtain ⟨φ, hR1, hle1, hun1⟩ := settled_sound hR hbx hfd hqs hset
            have hbx1 : (S.bx (us ++ [(b, .fam k es' none)])).box b = .fam k es' none := by
              rw [bx_app, bx_one, upd_box_same]
            obtain ⟨σ', ν', vs, q3, hvl, _, _, hR2, hle2, hval⟩ := takeOut_sound hR1 hbx1 hfd (fun i hi => hun1 _ (hun i hi)) hps' hbs hh
            unfold ContRel at q3
            rw [hrow] at q3
            simp only at q3
            obtain ⟨q3, q3b, q3c⟩ := q3
            have q3 : w.ownsL 0 fd.vt 1 (ν b) vs.length vs := q3
            obtain ⟨i0, hi0, hi0l, hi0e, _, _⟩ := has_idx hh
            have hi : i0 = i := by
              have e1 : (es'.map (·.1))[i0]? = some [Fd.i (i : Int)] := by rw [List.getElem?_map, hi0e]; rfl
              rw [q3c, List.getElem?_map] at e1
              cases e2 : (List.range vs.length)[i0]? with
              | none => rw [e2] at e1; cases e1
              | some j =>
                rw [e2] at e1
                have := (List.getElem?_range (n := vs.length) (i := i0) (by omega)).symm.trans e2
                simp only [Option.some.injEq] at this
                subst this
                simp only [Option.map_some, Option.some.injEq, List.cons.injEq, Fd.i.injEq, and_true] at e1
                omega
            subst hi
            obtain ⟨v0, hv0⟩ : ∃ v, vs[i0]? = some v := ⟨_, List.getElem?_eq_getElem (by omega)⟩
            have hv1 := hval i0 v0 hi0e hv0
            have hA1 := hA.mono hle1 (bx_slot _ S).1 (bx_slot _ S).2
            have hA2 := hA1.mono hle2 (bx_slot _ _).1 (bx_slot _ _).2
            have hc := q3.cells (g := g) hg i0 v0 hv0
            rw [Addr.add_lit, Nat.zero_add] at hc
            refine upTo_load hv (run_loadVar_one hsz hagg hc) ?_
            unfold Lands
            simp only
            rw [bx_again us _ S b _ (.fam k es' none)]
            rw [hvagg] at hv1
            exact ⟨σ', ν', hR2, hA2, mkAV_val hva hv1⟩
          · simp at h
        · simp at h
      · exact sound_load1 t _ S r _ h hps M w0 a w hRA
    · exact sound_load1 t _ S r _ h1 hps M w0 a w hRA
theorem sound_store6 (t : TypeId) (x y : Operand) : Sound P D (oStore6 P D t x y) (fun ρ => do Instr.storeAt t (ρ x) (ρ y); pure .skip) := by
  intro S r l h hps M w0 a w hRA
  unfold oStore6 at h
  obtain ⟨av, l0, hav, h1⟩ := rdA_run h
  clear h
  split at h1
  · rename_i b base N i
    obtain ⟨ay, l1, hay, h⟩ := rdA_run h1
    clear h1
    split at h
    · rename_i sh ll
      obtain ⟨l2, h2⟩ := box_run h
      clear h
      split at h2
      · rename_i ty ps hbx
        split at h2
        · rename_i p1 sh' n lll p3 hpr
          split at h2
          · rename_i hsz
            cases hsh : shEq sh sh' <;> simp only [hsh, cond_true, cond_false, run_fail] at h2
            have := shEq_eq hsh
            subst this
            simp only [run_ret] at h2
            obtain ⟨rfl, _⟩ := h2
            obtain ⟨σ, ν, hR, hA⟩ := hRA
            obtain ⟨hone, hal, hiN, hv⟩ := evalA_rel hA hav
            simp only [List.cons.injEq, and_true] at hv
            have hv' : a.eval x = .pointer (some ⟨σ b, base + i, none⟩) := hv
            obtain ⟨hone2, v, hyv, hy⟩ := evalA_rel hA hay
            have hyv : a.eval y = v := (List.cons.inj hyv).1
            have k1 : offP D p1 ≤ base + i := hps _ (by simp)
            have k2 : base + i < offP D p1 + n := hps _ (by simp)
            have k3 : ll ≠ [] := hps _ (by simp)
            have hb := hR.boxes b
            rw [hbx] at hb
            obtain ⟨cs, hg, hp⟩ := hb
            have hg' : w.heap[σ b]? = some (.cells cs ty (0, 0)) := hg
            obtain ⟨c1, c2, c3, he, hl1, hr1, ⟨hl2, hl3, hc⟩, hr3⟩ := prssOf_rel hpr hp
            have hc1 : (a.eval y).cells.toList = [v] := by
              rw [hyv] at hone2 ⊢
              cases v <;> first | rfl | simp [Value.oneCell'] at hone2
            have h1v : v.oneCell' = true := by rw [← hyv]; exact hone2
            have hcs : cs.size = offP D p1 + (n + c3.length) := by rw [← Array.length_toList, he, List.length_append, List.length_append, hl1, hl3]
            have hst := run_storeVarB (P := P) (w := w) (v := a.eval y) (n := 1) rfl hsz (by rw [hc1]; rfl) (by rw [hc1]; simpa using h1v) hg' (off := base + i) (by omega)
            have hset : cs.toList.take (base + i) ++ (a.eval y).cells.toList ++ cs.toList.drop (base + i + 1) = c1 ++ (c2.set (base + i - offP D p1) v ++ c3) := by
              rw [hc1, he]
              obtain ⟨j, hj⟩ : ∃ j, base + i = offP D p1 + j := ⟨base + i - offP D p1, by omega⟩
              rw [hj, ← hl1, List.take_length_add_append, List.take_append_of_le_length (by omega), Nat.add_assoc, List.drop_length_add_append, List.drop_append_of_le_length (by omega), Nat.add_sub_cancel_left,
                List.set_eq_take_append_cons_drop, if_pos (by omega)]
              simp only [List.append_assoc, List.cons_append, List.nil_append]
            rw [hset] at hst
            refine upTo_store hv' hst ?_
            unfold Lands
            simp only [bx_one]
            have hle : (S.env D M w0 σ ν).le ((S.upd (.box b (.fixed ty (p1 ++ (.prss sh n (lll.set (base + i - offP D p1) ll) :: p3))))).env D M w0 σ ν) := env_upd_box (by trivial)
            refine ⟨σ, ν, hR.updBox (by trivial) (by rw [hbx]; rfl) ⟨_, setRow_heap w _ cs _ ty _ hg', ?_⟩ ?_, hA.mono hle rfl rfl, undef_rel⟩
            · have hq : PartsRel D (S.env D M w0 σ ν) (p1 ++ (.prss sh n (lll.set (base + i - offP D p1) ll) :: p3)) (c1 ++ (c2.set (base + i - offP D p1) v ++ c3)) := by
                refine hr1.append ⟨_, _, rfl, ⟨by rw [List.length_set]; exact hl2, by rw [List.length_set]; exact hl3, fun j u hu => ?_⟩, hr3⟩
                by_cases hj : base + i - offP D p1 = j
                · subst hj
                  rw [List.getElem?_set_self (by omega)] at hu
                  simp only [Option.some.injEq] at hu
                  subst hu
                  rw [show (lll.set (base + i - offP D p1) ll).getD (base + i - offP D p1) [] = ll from by rw [List.getD_eq_getElem?_getD, List.getElem?_set_self (by omega)]; rfl]
                  exact ⟨hy, fun e => absurd e k3⟩
                · rw [List.getElem?_set_ne hj] at hu
                  rw [show (lll.set (base + i - offP D p1) ll).getD j [] = lll.getD j [] from by simp only [List.getD_eq_getElem?_getD, List.getElem?_set_ne hj]]
                  exact hc j u hu
              simpa using hq.mono hle
            · rw [hbx]
              exact grownBy_setRow w _ _
          · simp at h2
        · simp at h2
      · simp at h2
    · exact sound_storeR t x y S r _ h hps M w0 a w hRA
  · exact sound_storeR t x y S r _ h1 hps M w0 a w hRA
end
end Go.Abs
namespace Go.Abs
open Go.RowKit
section
variable {P : Program} {D : Dom}
theorem keys_row {n : Nat} : ((List.range n).map fun (i : Nat) => [Fd.i (i : Int)]).Nodup := by
  refine List.Pairwise.map _ (fun a b h e => h ?_) List.nodup_range
  simp only [List.cons.injEq, Fd.i.injEq, and_true] at e
  omega
theorem sound_build6 (nid : Nat) (t : TypeId) (len : Nat) (parts : Array (Nat × Operand)) : Sound P D (oBuild6 P D nid t len parts.toList) (fun ρ => do pure (.value (← Instr.buildSlice t len (parts.map fun (i, x) => (i, ρ x))))) := by
  intro S r l h hps M w0 a w hRA
  have back : ∀ {l'}, (oBuild1 P D nid t len parts.toList).run S = some (r, l') → UpTo P (Lands M w0 S a r) (((do pure (.value (← Instr.buildSlice t len (parts.map fun (i, x) => (i, a.eval x)))) : Sem Next)).run P w) := fun h => sound_build1 nid t len parts S r _ h hps M w0 a w hRA
  have one : ∀ {x : Operand} {e : TypeId} {p : Part D.τ} {qs : List Prop}, parts.toList = [(0, x)] → P.underlying t = some (.slice e) → szOf P e = some 1 → len = 1 → zeroFits P e 1 = true → S.box nid = .un → esz D p = 1 →
      (∀ σ ν, RR D M w0 σ ν S w → RA D M w0 σ ν S a → (a.eval x).oneCell' = true ∧ PartRel D (S.env D M w0 σ ν) p [a.eval x]) →
      UpTo P (Lands M w0 S a ⟨.v (.one (.own nid)), [(nid, .dyn e p)], qs⟩) (((do pure (.value (← Instr.buildSlice t len (parts.map fun (i, x) => (i, a.eval x)))) : Sem Next)).run P w) := by
    intro x e p qs hpl ht hsz hl hz hun hes hrel
    subst hl
    obtain ⟨σ, ν, hR, hA⟩ := hRA
    obtain ⟨h1, h2⟩ := hrel σ ν hR hA
    have hc1 : (a.eval x).cells.toList = [a.eval x] := by
      cases hv : a.eval x <;> first | rfl | (rw [hv] at h1; simp [Value.oneCell'] at h1)
    have hfl : flat [a.eval x] = [a.eval x] := by simp [flat, hc1]
    have hcz : ∀ v ∈ [a.eval x], v.cells.size = 1 := fun v hv' => by rw [List.mem_singleton.1 hv', ← Array.length_toList, hc1]; rfl
    have hparts : (parts.map fun (p : Nat × Operand) => (p.1, a.eval p.2)).toList = ((List.range [a.eval x].length).map (0 + ·)).zip [a.eval x] := by
      rw [Array.toList_map, hpl]
      rfl
    have hrun := run_buildSliceS (P := P) (w := w) (parts := parts.map fun (p : Nat × Operand) => (p.1, a.eval p.2)) ht hsz hz (Nat.le_refl 1) (by show 1 ≤ 16777216; omega) hparts hcz
    refine upTo_val hrun (lands_dynE (old := []) (row := none) (p := p) (xs := flat [a.eval x]) (n := 1) hR hA hun ?_ (by rw [hfl]; exact h2) rfl (World.grownBy_alloc _ _ _) (by simp) (fun g hg => .inl ?_))
    · rw [hes]
      show (w.alloc _).ownsL 0 e 1 _ 1 _
      rw [hfl]
      refine ⟨rfl, .inr ⟨w.heap.size, 1, _, rfl, Nat.zero_le _, Go.heap_alloc_new w _, Nat.le_refl _, ?_, ?_, ?_⟩⟩
      · unfold maxLen; omega
      · simp
      · simp
    · simp [Value.ownBlock] at hg; omega
  unfold oBuild6 at h
  generalize hpl : parts.toList = pl at h back one
  split at h
  · rename_i x
    obtain ⟨av, l0, hav, h⟩ := rdA_run h
    split at h
    · rename_i k il
      split at h
      · rename_i e ht
        split at h
        · rename_i hsz
          generalize hb : (Nat.beq len 1 && zeroFits P e 1) = bb at h
          cases bb <;> simp only [cond_true, cond_false, run_fail] at h
          simp only [Bool.and_eq_true] at hb
          obtain ⟨l1, h⟩ := box_run h
          split at h
          · rename_i hun
            simp only [run_ret] at h
            obtain ⟨rfl, _⟩ := h
            refine one rfl ht hsz (Nat.eq_of_beq_eq_true hb.1) hb.2 hun rfl (fun σ ν hR hA => ?_)
            obtain ⟨h1, v, hv, hs⟩ := evalA_rel hA hav
            have hv : a.eval x = v := (List.cons.inj hv).1
            refine ⟨h1, rfl, fun i r hi => ?_⟩
            have hi0 : i = 0 := by have := (List.getElem?_eq_some_iff.1 hi).1; simp at this; exact this
            subst hi0
            simp only [List.getElem?_cons_zero, Option.some.injEq] at hi
            subst hi
            refine ⟨[a.eval x], [], rfl, ⟨v, by rw [hv], hs⟩, rfl⟩
          · simp at h
        · simp at h
      · simp at h
    · rename_i b off
      split at h
      · rename_i e ht
        split at h
        · rename_i hsz
          generalize hb : (Nat.beq len 1 && zeroFits P e 1) = bb at h
          cases bb <;> simp only [cond_true, cond_false, run_fail] at h
          simp only [Bool.and_eq_true] at hb
          obtain ⟨l1, h⟩ := box_run h
          split at h
          · rename_i hun
            simp only [run_ret] at h
            obtain ⟨rfl, _⟩ := h
            exact one rfl ht hsz (Nat.eq_of_beq_eq_true hb.1) hb.2 hun rfl (fun σ ν hR hA => evalA_rel hA hav)
          · simp at h
        · simp at h
      · simp at h
    · exact back h
  · exact back h
theorem RR.nilRow {M : Mem} {w0 w : World} {σ : Loc} {ν : Nat → Value} {S : St D.τ} (hR : RR D M w0 σ ν S w) {c k : Nat} {fd : FamD D.τ} (hun : S.box c = .un) (hfd : D.fam k = some fd) (hrow : fd.row = true) :
    RR D M w0 ⟨σ.f, σ.zw, σ.zm, setN σ.φ c (fun _ => False)⟩ (setN ν c (.slice none 0 0)) (S.upd (.box c (.fam k [] none))) w ∧
      (S.env D M w0 σ ν).le ((S.upd (.box c (.fam k [] none))).env D M w0 ⟨σ.f, σ.zw, σ.zm, setN σ.φ c (fun _ => False)⟩ (setN ν c (.slice none 0 0))) := by
  have hle : (S.env D M w0 σ ν).le ((S.upd (.box c (.fam k [] none))).env D M w0 ⟨σ.f, σ.zw, σ.zm, setN σ.φ c (fun _ => False)⟩ (setN ν c (.slice none 0 0))) := env_le_box hun (fun _ _ => rfl) (fun b hb => setN_other _ _ hb) (fun g hg => ⟨hg, rfl⟩)
  have hFp : ∀ g, ¬ Fp D ((S.upd (.box c (.fam k [] none))).env D M w0 ⟨σ.f, σ.zw, σ.zm, setN σ.φ c (fun _ => False)⟩ (setN ν c (.slice none 0 0))) c ((S.upd (.box c (.fam k [] none))).box c) g := by
    intro g hg
    rw [upd_box_same] at hg
    have : setN σ.φ c (fun _ => False) c g := hg
    rwa [setN_same] at this
  refine ⟨hR.step hle (· = c) ?_ ?_ ?_ ?_ hR.kept rfl hR.zk ?_ (fun b g _ h _ => hR.zd b g h) (fun g h => .inl h) (fun b hb => setN_other _ _ hb), hle⟩
  · rintro b rfl
    rw [upd_box_same]
    refine ⟨fd, hfd, [], fun _ _ => False, ?_, by simp, rfl, fun g hg => ?_, fun g hg => ?_, (fun x ps e => by cases e), fun i key ob v hi => by simp at hi, fun i g hg => hg.elim, fun i j g h => h.elim⟩
    · unfold ContRel
      rw [hrow]
      show w.ownsL 0 fd.vt 1 (setN ν b _ b) 0 [] ∧ (setN ν b _ b).oneCell' = true ∧ _
      rw [setN_same]
      exact ⟨World.ownsL_nil _ _ _ _, rfl, rfl⟩
    · have : setN σ.φ b (fun _ => False) b g := hg
      rw [setN_same] at this
      exact this.elim
    · have h2 : IsCont D fd ((S.upd (.box b (.fam k [] none))).env D M w0 ⟨σ.f, σ.zw, σ.zm, setN σ.φ b (fun _ => False)⟩ (setN ν b (.slice none 0 0))) b g := hg
      unfold IsCont at h2
      rw [hrow] at h2
      have h2 : (setN ν b (.slice none 0 0) b).ownBlock = some g := h2
      rw [setN_same] at h2
      simp [Value.ownBlock] at h2
  · intro b hb
    exact .inl ⟨upd_box_other S _ hb, fun g _ => rfl⟩
  · rintro b b' g rfl _ h1 _
    exact (hFp g h1).elim
  · rintro b g rfl h
    exact (hFp g h).elim
  · rintro b g rfl h
    exact (hFp g h).elim
theorem lands_push {M : Mem} {w0 : World} {σ : Loc} {ν : Nat → Value} {S : St D.τ} {a : Act} {w w' : World} (hR : RR D M w0 σ ν S w) (hA : RA D M w0 σ ν S a) {b k nid : Nat} {es : List (Rec × Ob)} {fd : FamD D.τ} {ob : Ob} {ps : List (Part D.τ)} {u v' : Value} {qs : List Prop}
    (hbx : S.box b = .fam k es none) (hun : S.box nid = .un) (hfd : D.fam k = some fd) (hrow : fd.row = true) (hva : fd.vagg = false) (h1u : u.oneCell' = true) (hu : PartsRel D (S.env D M w0 σ ν) ps [u])
    (hv1 : v'.oneCell' = true) (hown : ∀ vs, w.ownsL 0 fd.vt 1 (ν b) es.length vs → w'.ownsL 0 fd.vt 1 v' (es.length + 1) (vs ++ [u])) (hg : w.grownBy w' (ν b).ownBlock) (hgo : ∀ g, v'.ownBlock = some g → w.heap.size ≤ g ∨ (ν b).ownBlock = some g) :
    Lands M w0 S a ⟨.v (.one (.own nid)), [(b, .dead), (nid, .fam k (es ++ [([.i es.length], ob)]) (some ([.i es.length], ps)))], qs⟩ v' w' := by
  have hold := hR.boxes b
  rw [hbx] at hold
  obtain ⟨fd', hfd', vs, Fs, q3, q4, q5, q6, q7, q8, q9, q10, q11⟩ := hold
  rw [hfd] at hfd'
  simp only [Option.some.injEq] at hfd'
  subst hfd'
  have hbn : b ≠ nid := fun e => by rw [e, hun] at hbx; cases hbx
  unfold ContRel at q3
  rw [hrow] at q3
  simp only at q3
  obtain ⟨q3, q3b, q3c⟩ := q3
  have q3 : w.ownsL 0 fd.vt 1 (ν b) vs.length vs := q3
  rw [← q5] at q3
  have hnew := hown vs q3
  have hcont : ∀ g, IsCont D fd (S.env D M w0 σ ν) b g ↔ (ν b).ownBlock = some g := fun g => by unfold IsCont; rw [hrow]; exact Iff.rfl
  have hfb : ∀ g, σ.φ b g → Fp D (S.env D M w0 σ ν) b (S.box b) g := fun g hg => by rw [hbx]; exact hg
  unfold Lands
  simp only
  generalize hS' : S.bx [(b, .dead), (nid, .fam k (es ++ [([.i es.length], ob)]) (some ([.i es.length], ps)))] = S'
  have hbox : ∀ c, S'.box c = if c = nid then .fam k (es ++ [([.i es.length], ob)]) (some ([.i es.length], ps)) else if c = b then .dead else S.box c := by
    intro c
    rw [← hS']
    show ((S.upd (.box b .dead)).upd (.box nid _)).box c = _
    by_cases h : c = nid
    · subst h; rw [upd_box_same, if_pos rfl]
    · rw [upd_box_other _ _ h, if_neg h]
      by_cases h2 : c = b
      · subst h2; rw [upd_box_same, if_pos rfl]
      · rw [upd_box_other _ _ h2, if_neg h2]
  have hsl : S'.slot = S.slot ∧ S'.nt = S.nt := by rw [← hS']; exact bx_slot _ S
  have hnp : S'.np = S.np := by rw [← hS']; exact bx_np _ S
  have hnn : S'.box nid = .fam k (es ++ [([.i es.length], ob)]) (some ([.i es.length], ps)) := by rw [hbox, if_pos rfl]
  generalize hG : (fun g => (σ.φ b g ∧ ¬ (ν b).ownBlock = some g) ∨ v'.ownBlock = some g) = G
  let σ' : Loc := ⟨σ.f, σ.zw, σ.zm, setN σ.φ nid G⟩
  have hne : ∀ c, (S.box c).al → c ≠ nid := fun c h e => by subst e; rw [hun] at h; exact h
  have hle : (S.env D M w0 σ ν).le (S'.env D M w0 σ' (setN ν nid v')) := by
    refine ⟨fun c h => ?_, fun _ _ => rfl, fun c h => setN_other _ _ (hne c h), rfl, rfl, ⟨rfl, rfl⟩, fun g hg => ⟨hg, rfl⟩⟩
    show (S'.box c).al
    rw [hbox, if_neg (hne c h)]
    by_cases ho : c = b
    · rw [if_pos ho]; trivial
    · rw [if_neg ho]; exact h
  have hFp : ∀ g, Fp D (S'.env D M w0 σ' (setN ν nid v')) nid (S'.box nid) g → G g := by
    intro g h
    rw [hnn] at h
    have : setN σ.φ nid G nid g := h
    rwa [setN_same] at this
  have hGo : ∀ g, G g → w.heap.size ≤ g ∨ σ.φ b g := by
    intro g h
    rw [← hG] at h
    rcases h with h | h
    · exact .inr h.1
    · rcases hgo g h with h | h
      · exact .inl h
      · exact .inr (q7 g ((hcont g).2 h))
  have hO : ∀ c g, c ≠ nid → Fp D (S'.env D M w0 σ' (setN ν nid v')) c (S'.box c) g → c ≠ b ∧ Fp D (S.env D M w0 σ ν) c (S.box c) g := by
    intro c g hc h
    rw [hbox, if_neg hc] at h
    by_cases ho : c = b
    · rw [if_pos ho] at h; cases h
    · rw [if_neg ho] at h
      exact ⟨ho, (fp_same (E := S.env D M w0 σ ν) (F := S'.env D M w0 σ' (setN ν nid v')) rfl (setN_other _ _ hc) (setN_other _ _ hc)).1 h⟩
  have hown' : ∀ g, (ν b).ownBlock = some g → Fp D (S.env D M w0 σ ν) b (S.box b) g := fun g h => hfb g (q7 g ((hcont g).2 h))
  refine ⟨σ', setN ν nid v', hR.step hle (· = nid) ?_ ?_ ?_ ?_ (hR.kept.grown hg fun g h => hR.lo b g (hown' g h)) hnp (hR.zk_grown hg fun g h => hR.zd b g (hown' g h)) ?_ (fun c g _ h _ => hR.zd c g h) (fun g h => .inl h) (fun c hc => setN_other _ _ hc), hA.mono hle hsl.1 hsl.2, ?_⟩
  · rintro c rfl
    rw [hnn]
    refine ⟨fd, hfd, vs ++ [u], fun i g => i < es.length ∧ Fs i g, ?_, ?_, by simp [q5], fun g h => ?_, fun g h => ?_, fun x ps' e => ?_, fun i key' ob' v hi hv => ?_, fun i g h => ?_, fun i j g h1 h2 => q11 i j g h1.2 h2.2⟩
    · unfold ContRel
      rw [hrow]
      show w'.ownsL 0 fd.vt 1 (setN ν c v' c) (vs ++ [u]).length (vs ++ [u]) ∧ (setN ν c v' c).oneCell' = true ∧ _
      rw [setN_same, List.length_append, ← q5]
      refine ⟨hnew, hv1, ?_⟩
      rw [List.map_append, q3c, ← q5]
      simp [List.range_succ]
    · rw [List.map_append, q3c, ← q5]
      have := keys_row (n := es.length + 1)
      rw [List.range_succ, List.map_append] at this
      exact this
    · have h : setN σ.φ c G c g := h
      rw [setN_same, ← hG] at h
      rcases h with h | h
      · exact Nat.lt_of_lt_of_le (q6 g h.1) hg.size
      · exact (hnew.lt g h).2
    · show setN σ.φ c G c g
      rw [setN_same, ← hG]
      unfold IsCont at h
      rw [hrow] at h
      have h : (setN ν c v' c).ownBlock = some g := h
      rw [setN_same] at h
      exact .inr h
    · simp only [Option.some.injEq, Prod.mk.injEq] at e
      rw [← e.1]
      cases hh : hasE (es ++ [([Fd.i es.length], ob)]) [.i es.length] with
      | true => rfl
      | false => exact absurd (List.mem_map.2 ⟨([Fd.i es.length], ob), by simp, rfl⟩) (has_not hh).2.2.2
    · have hlen : i < es.length + 1 := by have := (List.getElem?_eq_some_iff.1 hi).1; simpa using this
      by_cases hlt : i < es.length
      · rw [List.getElem?_append_left hlt] at hi
        rw [List.getElem?_append_left (by omega)] at hv
        rcases q9 i _ _ _ hi hv with ⟨ps', e1, _⟩ | ⟨_, e2⟩
        · cases e1
        · refine .inr ⟨fun ps' e => ?_, ?_⟩
          · simp only [Option.some.injEq, Prod.mk.injEq] at e
            have e1 : (es.map (·.1))[i]? = some key' := by rw [List.getElem?_map, hi]; rfl
            rw [q3c, List.getElem?_map, List.getElem?_range (by omega), ← e.1] at e1
            simp only [Option.map_some, Option.some.injEq, List.cons.injEq, Fd.i.injEq, and_true] at e1
            omega
          · have := (e2.mono (XK_stays k) (Loc.le_refl σ) (w' := w') fun g hg' => hg.block g (q6 g (q10 i g hg').1) (fun e => (q10 i g hg').2 ((hcont g).2 e.symm))).zone (σ2 := σ') rfl rfl
            have e3 : (fun g => i < es.length ∧ Fs i g) = Fs i := funext fun g => by simp [hlt]
            show ObjRel D (XK D k) fd σ' w' ob' v (fun g => i < es.length ∧ Fs i g)
            rw [e3]
            exact this
      · have he : i = es.length := by omega
        rw [he, List.getElem?_append_right (Nat.le_refl _), Nat.sub_self] at hi
        rw [he, List.getElem?_append_right (by omega), show es.length - vs.length = 0 from by omega] at hv
        simp only [List.getElem?_cons_zero, Option.some.injEq, Prod.mk.injEq] at hi hv
        obtain ⟨rfl, rfl⟩ := hi
        subst hv
        refine .inl ⟨ps, rfl, ?_⟩
        rw [hva]
        exact ⟨h1u, hu.mono hle⟩
    · have hc := q10 i g h.2
      refine ⟨?_, fun h2 => ?_⟩
      · show setN σ.φ c G c g
        rw [setN_same, ← hG]
        exact .inl ⟨hc.1, fun e => hc.2 ((hcont g).2 e)⟩
      · unfold IsCont at h2
        rw [hrow] at h2
        have h2 : (setN ν c v' c).ownBlock = some g := h2
        rw [setN_same] at h2
        rcases hgo g h2 with h3 | h3
        · have := q6 g hc.1; omega
        · exact hc.2 ((hcont g).2 h3)
  · intro c hc
    rw [hbox, if_neg hc]
    by_cases ho : c = b
    · rw [if_pos ho]; exact .inr rfl
    · rw [if_neg ho]
      refine .inl ⟨rfl, fun g hgc => hg.block g (blk_lt hR hgc) (fun e => ?_)⟩
      exact hR.disj c b g ho hgc (hown' g e.symm)
  · rintro c c' g rfl hne' h1 h2
    obtain ⟨ho, h2'⟩ := hO c' g (Ne.symm hne') h2
    rcases hGo g (hFp g h1) with h | h
    · have := blk_lt hR h2'; omega
    · exact hR.disj c' b g ho h2' (hfb g h)
  · rintro c g rfl h
    rcases hGo g (hFp g h) with h | h
    · exact .inl (by have := hR.kept.size; omega)
    · exact hR.lo b g (hfb g h)
  · rintro c g rfl h
    rcases hGo g (hFp g h) with h | h
    · exact fun hz => by have := (hR.zk g hz).1; omega
    · exact hR.zd b g (hfb g h)
  · refine ⟨hv1, ?_, ?_, ?_⟩
    · show (S'.box nid).al
      rw [hnn]; trivial
    · show (setN ν nid v' nid).oneCell' = true
      rw [setN_same]; exact hv1
    · show [v'] = [setN ν nid v' nid]
      rw [setN_same]
theorem rowFam_spec {t e : TypeId} {k : Nat} {fd : FamD D.τ} (h : rowFam D t e = some (k, fd)) : D.fam k = some fd ∧ fd.row = true ∧ fd.vt = e ∧ fd.vagg = false := by
  unfold rowFam at h
  split at h
  · split at h
    · rename_i k' _ fd' hfd
      generalize hb : (fd'.row && (Nat.beq fd'.vt e && (!fd'.vagg && Nat.ble 1 fd'.n))) = bb at h
      cases bb <;> simp only [cond_true, cond_false] at h
      · cases h
      · simp only [Option.some.injEq, Prod.mk.injEq] at h
        obtain ⟨rfl, rfl⟩ := h
        simp only [Bool.and_eq_true, Bool.not_eq_true'] at hb
        exact ⟨hfd, hb.1, Nat.eq_of_beq_eq_true hb.2.1, hb.2.2.1⟩
    · cases h
  · cases h
theorem sound_append6 (nid : Nat) (x y : Operand) (t u ty : TypeId) : Sound P D (oAppend6 P D nid x y t u) (fun ρ => valOf (Builtin.append_ #[t, u] ty #[ρ x, ρ y])) := by
  intro S r l h hps M w0 a w hRA
  unfold oAppend6 at h
  obtain ⟨bv, l0, hbv, h1⟩ := rdA_run h
  clear h
  split at h1
  · rename_i c
    obtain ⟨l1, h⟩ := box_run h1
    clear h1
    split at h
    · rename_i e' k ll hbx
      split at h
      · rename_i e ht
        split at h
        · rename_i hsz
          generalize hb : (Nat.beq t u && (zeroFits P e 1 && Nat.beq e e')) = bb at h
          cases bb <;> simp only [cond_true, cond_false, run_fail] at h
          simp only [Bool.and_eq_true] at hb
          have htu := Nat.eq_of_beq_eq_true hb.1
          subst htu
          have hee := Nat.eq_of_beq_eq_true hb.2.2
          subst hee
          obtain ⟨av, l2, hav, h2⟩ := rdA_run h
          clear h
          split at h2
          · obtain ⟨l3, h⟩ := box_run h2
            clear h2
            split at h
            · rename_i hun
              simp only [run_ret] at h
              obtain ⟨rfl, _⟩ := h
              have b2 : ll.length * bytesOfT P e ≤ 140737488355328 := hps _ (by simp)
              have b1 : ll.length ≤ 9223372036854775807 := hps _ (by simp)
              obtain ⟨σ, ν, hR, hA⟩ := hRA
              have hx := evalA_rel hA hav
              have hxv : a.eval x = .slice none 0 0 := by have := hx.2; simpa [PartRel] using this
              obtain ⟨_, hal, h1c, hyv⟩ := evalA_rel hA hbv
              have hyv' : a.eval y = ν c := (List.cons.inj hyv).1
              have hbo := hR.boxes c
              rw [hbx] at hbo
              obtain ⟨m, xs, hown, hp, _⟩ := hbo
              have hr1 : rsz [FK.words k] = 1 := rfl
              have hown : w.ownsL 0 e 1 (ν c) m xs := hown
              have hm : xs.length = m := by have := hown.1; simpa using this
              have hml : m = ll.length := by have := hp.1; rw [hr1] at this; omega
              subst hml
              obtain ⟨ao, cap, hνe, hnil, hnews⟩ : ∃ ao cap, ν c = .slice ao ll.length cap ∧ (ao = none → xs = [] ∧ cap = 0) ∧ ∀ ad, ao = some ad → ∀ j u, xs[j]? = some u → w.cell? (ad.add j) = some u := by
                rcases id hown.2 with ⟨h0, h0'⟩ | ⟨g, cap, cur, hνe, _⟩
                · refine ⟨none, 0, by rw [h0, h0'], fun _ => ⟨List.eq_nil_of_length_eq_zero (by omega), rfl⟩, fun ad e => by cases e⟩
                · refine ⟨some ⟨g, 0, none⟩, cap, hνe, fun e => by (cases e), fun ad e j u hu => ?_⟩
                  simp only [Option.some.injEq] at e
                  subst e
                  exact hown.cells (g := g) (by rw [hνe]; rfl) j u hu
              obtain ⟨v', w', hr, ho, hg, hgo⟩ := append_runS (P := P) (ty := ty) (w := w) (v := .slice none 0 0) (n := 0) (m := ll.length) (xs := []) (us := xs) (ao := ao) (cap' := cap) ht hsz hb.2.1 (Nat.le_refl 1) (World.ownsL_nil _ _ _ _) (by omega) (fun u hu => PartRel.oneCell hp u hu) hnil hnews (by omega) (by rw [Nat.zero_add]; exact b2)
              simp only [List.nil_append, Nat.zero_add] at ho
              refine upTo_val (v := v') (w' := w') (by rw [hxv, hyv', hνe]; exact hr) (lands_dynE (old := []) (row := none) (p := .lrs [.words k] ll) hR hA hun ho hp (ownsL_one ho) hg (by simp) (fun g h' => .inl ?_))
              rcases hgo g h' with h'' | h''
              · exact h''
              · simp [Value.ownBlock] at h''
            · simp at h
          · simp at h2
        · simp at h
      · simp at h
    · rename_i e' b off hbx
      split at h
      · rename_i e ht
        split at h
        · rename_i k fd hsz hrf
          obtain ⟨hfd, hrow, hvt, hva⟩ := rowFam_spec hrf
          subst hvt
          generalize hb : (Nat.beq t u && (zeroFits P fd.vt 1 && Nat.beq fd.vt e')) = bb at h
          cases bb <;> simp only [cond_true, cond_false, run_fail] at h
          simp only [Bool.and_eq_true] at hb
          have htu := Nat.eq_of_beq_eq_true hb.1
          subst htu
          have hee := Nat.eq_of_beq_eq_true hb.2.2
          subst hee
          obtain ⟨⟨ob, ids⟩, l2, l3, _, h2⟩ := bind_run h
          clear h
          simp only at h2
          obtain ⟨av, l4, hav, h⟩ := rdA_run h2
          clear h2
          obtain ⟨σ, ν, hR, hA⟩ := hRA
          have hx := evalA_rel hA hav
          obtain ⟨_, hal, h1c, hyv⟩ := evalA_rel hA hbv
          have hyv' : a.eval y = ν c := (List.cons.inj hyv).1
          have hbo := hR.boxes c
          rw [hbx] at hbo
          obtain ⟨m, xs, hown, hp, _⟩ := hbo
          have hown : w.ownsL 0 fd.vt 1 (ν c) m xs := hown
          obtain ⟨hpal, hpx⟩ := hp
          have hm1 : m = 1 := by have := hown.1; rw [hpx] at this; simpa using this.symm
          subst hm1
          generalize hu : Value.pointer (some ⟨(S.env D M w0 σ ν).σ b, off, none⟩) = uv at hpx
          have hu1 : uv.oneCell' = true := by rw [← hu]; rfl
          have hup : PartsRel D (S.env D M w0 σ ν) [.ref b off] [uv] := ⟨[uv], [], rfl, ⟨hpal, by rw [← hu]⟩, rfl⟩
          subst hpx
          obtain ⟨g0, cap, cur, hνe, _⟩ : ∃ g cap cur, ν c = .slice (some ⟨g, 0, none⟩) 1 cap ∧ w.heap[g]? = some (.cells cur fd.vt (0, 0)) := by
            rcases hown.2 with ⟨_, h0⟩ | ⟨g, cap, cur, hνe, _, hc, _⟩
            · cases h0
            · exact ⟨g, cap, cur, hνe, hc⟩
          have hnews : ∀ ad, some (⟨g0, 0, none⟩ : Addr) = some ad → ∀ j u, [uv][j]? = some u → w.cell? (ad.add j) = some u := by
            intro ad e j u hu
            simp only [Option.some.injEq] at e
            subst e
            exact hown.cells (g := g0) (by rw [hνe]; rfl) j u hu
          have key : ∀ {v : Value} {n : Nat} {vs : List Value}, w.ownsL 0 fd.vt 1 v n vs → n + 1 ≤ 9223372036854775807 → (n + 1) * bytesOfT P fd.vt ≤ 140737488355328 → ∃ v' w', (Builtin.append_ #[t, t] ty #[v, ν c]).run P w = .ok v' w' ∧ w'.ownsL 0 fd.vt 1 v' (n + 1) (vs ++ [uv]) ∧ w.grownBy w' v.ownBlock ∧ ∀ g, v'.ownBlock = some g → w.heap.size ≤ g ∨ v.ownBlock = some g := by
            intro v n vs h1 h2 h3
            rw [hνe]
            exact append_runS (P := P) (ty := ty) (w := w) (v := v) (n := n) (m := 1) (xs := vs) (us := [uv]) (ao := some ⟨g0, 0, none⟩) (cap' := cap) ht hsz hb.2.1 (Nat.le_refl 1) h1 rfl (fun u hu => by rw [List.mem_singleton.1 hu]; exact hu1) (fun e => by cases e) hnews h2 h3
          split at h
          · obtain ⟨l5, h2⟩ := box_run h
            clear h
            split at h2
            · rename_i hun
              obtain ⟨l6, h⟩ := box_run h2
              clear h2
              split at h
              · rename_i hun1
                simp only [run_ret] at h
                obtain ⟨rfl, _⟩ := h
                have b2 : bytesOfT P fd.vt ≤ 140737488355328 := hps _ (by simp)
                have hxv : a.eval x = .slice none 0 0 := by have := hx.2; simpa [PartRel] using this
                obtain ⟨hR1, hle1⟩ := hR.nilRow (c := nid + 1) hun1 hfd hrow
                obtain ⟨v', w', hr, ho, hg, hgo⟩ := key (World.ownsL_nil w 0 fd.vt 1) (by decide) (by simpa using b2)
                have hA1 := hA.mono hle1 rfl rfl
                have hn1 : nid ≠ nid + 1 := by omega
                have := lands_push (es := []) (ob := ob) (ps := [.ref b off]) (u := uv) (v' := v') (w' := w') (qs := [bytesOfT P fd.vt ≤ 140737488355328]) (nid := nid) hR1 hA1 (upd_box_same S _ _) (by rw [upd_box_other S _ hn1]; exact hun) hfd hrow hva hu1 (hup.mono hle1) (ownsL_one ho)
                  (fun vs hvs => by
                    have hvs0 : vs = [] := List.eq_nil_of_length_eq_zero (by have := hvs.1; simpa using this)
                    subst hvs0
                    exact ho)
                  (by rw [setN_same]; exact hg) (fun g hg' => by rw [setN_same]; exact hgo g hg')
                refine upTo_val (v := v') (w' := w') (by rw [hxv, hyv']; exact hr) ?_
                unfold Lands at this ⊢
                simp only at this ⊢
                have e2 : ∀ (s : BoxSt D.τ), (S.upd (.box (nid + 1) (.fam k [] none))).bx [(nid + 1, .dead), (nid, s)] = S.bx [(nid + 1, .dead), (nid, s)] := fun s => by
                  show (((S.upd (.box (nid + 1) (.fam k [] none))).upd (.box (nid + 1) .dead)).upd (.box nid s)) = ((S.upd (.box (nid + 1) .dead)).upd (.box nid s))
                  rw [upd_twice]
                rw [e2] at this
                exact this
              · simp at h
            · simp at h2
          · rename_i b0
            obtain ⟨l5, h2⟩ := box_run h
            clear h
            split at h2
            · rename_i k' es out hbx2
              cases hkk : Nat.beq k k' <;> simp only [hkk, cond_true, cond_false, run_fail] at h2
              have := Nat.eq_of_beq_eq_true hkk
              subst this
              obtain ⟨us, es', qs, l6, h, hset⟩ := settled_run h2
              clear h2
              obtain ⟨l7, h2⟩ := box_run h
              clear h
              split at h2
              · rename_i hun
                simp only [run_ret] at h2
                obtain ⟨rfl, _⟩ := h2
                have b2 : (es'.length + 1) * bytesOfT P fd.vt ≤ 140737488355328 := hps _ (by simp)
                have b1 : es'.length + 1 ≤ 9223372036854775807 := hps (es'.length + 1 ≤ 9223372036854775807) (by simp)
                have hqs : AllQ qs := fun p hp => hps p (by simp [hp])
                obtain ⟨φ, hR1, hle1, hun1⟩ := settled_sound hR hbx2 hfd hqs hset
                have hbx1 : (S.bx (us ++ [(b0, .fam k es' none)])).box b0 = .fam k es' none := by
                  rw [bx_app, bx_one, upd_box_same]
                have hxv : a.eval x = ν b0 := by
                  have h9 : [a.eval x] = [ν b0] := hx.2.2.2
                  simpa using h9
                have hold := hR1.boxes b0
                rw [hbx1] at hold
                obtain ⟨fd', hfd', vs, Fs, q3, q4, q5, _⟩ := hold
                rw [hfd] at hfd'
                simp only [Option.some.injEq] at hfd'
                subst hfd'
                unfold ContRel at q3
                rw [hrow] at q3
                simp only at q3
                obtain ⟨q3, _, _⟩ := q3
                have q3 : w.ownsL 0 fd.vt 1 (ν b0) vs.length vs := q3
                rw [← q5] at q3
                obtain ⟨v', w', hr, ho, hg, hgo⟩ := key q3 b1 b2
                have hA1 := hA.mono hle1 (bx_slot _ S).1 (bx_slot _ S).2
                have := lands_push (ob := ob) (ps := [.ref b off]) (u := uv) (v' := v') (w' := w') (qs := ((es'.length + 1) * bytesOfT P fd.vt ≤ 140737488355328) :: (es'.length + 1 ≤ 9223372036854775807) :: qs) (nid := nid) hR1 hA1 hbx1 (hun1 nid hun) hfd hrow hva hu1 (hup.mono hle1) (ownsL_one ho)
                  (fun vs' hvs => by
                    have e : vs' = vs := by
                      rcases hvs.2 with ⟨h1, h2⟩ | ⟨g, cap, cur, h1, _, h2, _, _, _, h3⟩
                      · have l1 := hvs.1
                        have l2 := q3.1
                        rw [List.eq_nil_of_length_eq_zero (l := vs') (by omega), List.eq_nil_of_length_eq_zero (l := vs) (by omega)]
                      · rcases q3.2 with ⟨h4, h5⟩ | ⟨g', cap', cur', h4, _, h5, _, _, _, h6⟩
                        · rw [h1] at h4; cases h4
                        · have h1 : ν b0 = _ := h1
                          rw [h1] at h4
                          simp only [Value.slice.injEq, Option.some.injEq, Addr.mk.injEq] at h4
                          obtain ⟨⟨rfl, _⟩, _⟩ := h4
                          rw [h2] at h5
                          simp only [Option.some.injEq, Obj.cells.injEq] at h5
                          rw [← h3, ← h6, h5.1]
                    rw [e]
                    exact ho) hg hgo
                refine upTo_val (v := v') (w' := w') (by rw [hxv, hyv']; exact hr) ?_
                unfold Lands at this ⊢
                simp only at this ⊢
                rw [bx_again us _ S b0 _ (.fam k es' none)]
                exact this
              · simp at h2
            · simp at h2
          · simp at h
        · simp at h
      · simp at h
    · exact sound_append1 nid x y t u ty S r _ h hps M w0 a w hRA
  · exact sound_append1 nid x y t u ty S r _ h1 hps M w0 a w hRA
theorem sound_indexAddr6 (t : TypeId) (x y : Operand) : Sound P D (oIndexAddr6 P D t x y) (fun ρ => do pure (.value (← Instr.indexAt t (ρ x) (ρ y)))) := by
  intro S r l h hps M w0 a w hRA
  unfold oIndexAddr6 at h
  split at h
  · exact sound_indexAddr1 t _ y S r _ h hps M w0 a w hRA
  · rename_i x' _
    obtain ⟨av, bv, l0, hav, hbv, h1⟩ := pair_run h
    clear h
    split at h1
    · rename_i b kd lt i
      obtain ⟨l1, h⟩ := box_run h1
      clear h1
      split at h
      · rename_i k es out hbx
        split at h
        · rename_i fd e hfd ht
          split at h
          · rename_i hs
            cases hrow : fd.row <;> simp only [hrow, cond_true, cond_false, run_fail] at h
            have hr := ok1_run h
            subst hr
            have h0 : 0 ≤ i := hps _ (by simp)
            have h1 : i < es.length := hps _ (by simp)
            obtain ⟨σ, ν, hR, hA⟩ := hRA
            obtain ⟨hone, hal, h1c, hv⟩ := evalA_rel hA hav
            simp only [List.cons.injEq, and_true] at hv
            have hv' : a.eval x = ν b := hv
            have hb := hR.boxes b
            rw [hbx] at hb
            obtain ⟨fd', hfd', vs, Fs, q3, _, q5, _⟩ := hb
            rw [hfd] at hfd'
            simp only [Option.some.injEq] at hfd'
            subst hfd'
            unfold ContRel at q3
            rw [hrow] at q3
            simp only at q3
            have q3 : w.ownsL 0 fd.vt 1 (ν b) vs.length vs := q3.1
            rcases q3.2 with ⟨hn, hz⟩ | ⟨g, cap, cur, hνe, _⟩
            · omega
            · refine upTo_val (w' := w) (v := .pointer (some ⟨g, i.toNat, none⟩)) ?_ (lands_pure hR hA ⟨rfl, hal, g, by show (ν b).ownBlock = _; rw [hνe]; rfl, rfl⟩)
              rw [int_rel (evalA_rel hA hbv), hv', hνe]
              have := run_indexAt_slice (P := P) (b := g) (off := 0) (cap := cap) (n := vs.length) (k := kd) (w := w) ht hs h0 (by omega)
              simpa using this
          · simp at h
        · simp at h
      · exact sound_indexAddr1 t _ y S r _ h hps M w0 a w hRA
    · exact sound_indexAddr1 t _ y S r _ h1 hps M w0 a w hRA
end
end Go.Abs

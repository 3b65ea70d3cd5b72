/- Several texts put together: AbsU AbsC AbsD AbsE. -/
import Derived.Test.YtgfinnhfpiadiaaMrg5
import Derived.Laws.BytesString
namespace Go.Abs
open Go.RowKit
section
variable {P : Program} {D : Dom}
theorem reach_run {α : Type} {S : St D.τ} : ∀ {f : Nat} {ids : List Nat} {i : Nat} {k : List Nat → Rd D.τ α} {r : α} {l : List Ref}, (reach D f ids i k).run S = some (r, l) → ∃ ids' l', (k ids').run S = some (r, l')
  | 0, _, _, _, _, _, h => by simp [reach] at h
  | f + 1, ids, i, k, r, l, h => by
    simp only [reach] at h
    split at h
    · exact ⟨ids, l, h⟩
    · obtain ⟨l1, h⟩ := box_run h
      exact reach_run h
theorem passA_sound {α : Type} {M : Mem} {w0 : World} {σ : Loc} {ν : Nat → Value} {S : St D.τ} {w : World} (hR : RR D M w0 σ ν S w) {ids : List Nat} {Mp : Nat → Prop} (hMp : Foot D M w0 σ ν S ids Mp) {F : Env} (hFM : F.M = Mp) (hFw : F.w0 = w)
    (hF : RenF (idx ids) (S.env D M w0 σ ν) F) {m : Bool} {t : TypeId} {a : AV D.τ} {k : A0 D.τ → Rd D.τ α} {r : α} {l : List Ref} {v : Value}
    (h : (passA P D ids m t a k).run S = some (r, l)) (ha : AVRel D (S.env D M w0 σ ν) a v) : ∃ x l', (k x).run S = some (r, l') ∧ A0Rel D F x v := by
  unfold passA at h
  cases m <;> simp only [cond_true, cond_false] at h
  · obtain ⟨x, l', h, hx⟩ := lendA_sound hR hMp h ha
    exact ⟨x, l', h, hx F hFM hFw hF.z (fun h => by cases h)⟩
  · split at h
    · split at h
      · rename_i a0 x hx
        exact ⟨x, l, h, rn0_sound hF hx ha⟩
      · simp at h
    · simp at h
theorem passAs_sound {α : Type} {M : Mem} {w0 : World} {σ : Loc} {ν : Nat → Value} {S : St D.τ} {w : World} (hR : RR D M w0 σ ν S w) {ids : List Nat} {Mp : Nat → Prop} (hMp : Foot D M w0 σ ν S ids Mp) {F : Env} (hFM : F.M = Mp) (hFw : F.w0 = w)
    (hF : RenF (idx ids) (S.env D M w0 σ ν) F) : ∀ {as : List (AV D.τ)} {ms : List Bool} {ts : List TypeId} {k : List (A0 D.τ) → Rd D.τ α} {r : α} {l : List Ref} {vs : List Value},
    (passAs P D ids ms ts as k).run S = some (r, l) → AVsRel (S.env D M w0 σ ν) as vs → ∃ xs l', (k xs).run S = some (r, l') ∧ A0sRel D F xs vs
  | [], ms, ts, k, r, l, vs, h, hp => by
    have h' : (k []).run S = some (r, l) := by
      cases ms <;> cases ts <;> exact h
    exact ⟨[], l, h', hp⟩
  | a :: as, ms, ts, k, r, l, vs, h, hp => by
    cases ms with
    | nil => simp [passAs] at h
    | cons m ms => cases ts with
      | nil => simp [passAs] at h
      | cons t ts =>
        obtain ⟨v, us, e, h1, h2⟩ := hp
        simp only [passAs] at h
        obtain ⟨x, l1, h, hx⟩ := passA_sound hR hMp hFM hFw hF h h1
        obtain ⟨xs, l2, h, hxs⟩ := passAs_sound hR hMp hFM hFw hF h h2
        exact ⟨x :: xs, l2, h, v, us, e, hx, hxs⟩
theorem start_op {M : Mem} {w0 : World} {σ : Loc} {ν : Nat → Value} {S : St D.τ} {w : World} (hR : RR D M w0 σ ν S w) {ids : List Nat} (hnd : ids.Nodup) {bs : List (BoxSt D.τ)} (hbs : rnBs D (idx ids) (ids.map S.box) = some bs)
    {σc : Loc} {νc : Nat → Value} (hσc : σc = ⟨fun i => σ (ids.getD i 0), σ.zw, σ.zm, fun i => σ.φ (ids.getD i 0)⟩) (hνc : νc = fun i => ν (ids.getD i 0)) :
    RR D (opMem D w σc νc bs) w σc νc (bst bs.length bs) w ∧ Foot D M w0 σ ν S ids (opMem D w σc νc bs).f ∧ RenF (idx ids) (S.env D M w0 σ ν) ((bst bs.length bs).env D (opMem D w σc νc bs) w σc νc) := by
  obtain ⟨hbl, hbg⟩ := rnBs_get hbs
  rw [List.length_map] at hbl
  have hget : ∀ (i : Nat) s, bs[i]? = some s → ∃ b, ids[i]? = some b ∧ rnB D (idx ids) (S.box b) = some s ∧ σc i = σ b ∧ νc i = ν b ∧ σc.φ i = σ.φ b := by
    intro i s hs
    have hlt : i < ids.length := by have := (List.getElem?_eq_some_iff.1 hs).1; omega
    have hidi : ids[i]? = some ids[i] := List.getElem?_eq_getElem hlt
    obtain ⟨t, ht, hrt⟩ := hbg i (S.box ids[i]) (by rw [List.getElem?_map, hidi]; rfl)
    rw [hs] at ht
    simp only [Option.some.injEq] at ht
    subst ht
    refine ⟨ids[i], hidi, hrt, ?_, ?_, ?_⟩
    · rw [hσc]; show σ (ids.getD i 0) = σ ids[i]; simp [hidi, List.getD_eq_getElem?_getD]
    · rw [hνc]; show ν (ids.getD i 0) = ν ids[i]; simp [hidi, List.getD_eq_getElem?_getD]
    · rw [hσc]; show σ.φ (ids.getD i 0) = σ.φ ids[i]; simp [hidi, List.getD_eq_getElem?_getD]
  have hren : RenF (idx ids) (S.env D M w0 σ ν) ((bst bs.length bs).env D (opMem D w σc νc bs) w σc νc) := by
    have hbc : ∀ b c, idx ids b = some c → ∃ s, bs[c]? = some s ∧ rnB D (idx ids) (S.box b) = some s := by
      intro b c hbc
      have := idx_spec hbc
      exact hbg c (S.box b) (by rw [List.getElem?_map, this]; rfl)
    refine ⟨fun b c hb _ => ?_, fun b c hb => ?_, fun b c hb => ?_, ?_⟩
    · obtain ⟨s, h1, h2⟩ := hbc b c hb
      show ((bst bs.length bs).box c).al
      rw [bst_box, h1]; exact (rnB_al h2).2
    · have := idx_spec hb
      show σc c = σ b
      rw [hσc]; show σ (ids.getD c 0) = σ b; simp [this, List.getD_eq_getElem?_getD]
    · have := idx_spec hb
      show νc c = ν b
      rw [hνc]; show ν (ids.getD c 0) = ν b; simp [this, List.getD_eq_getElem?_getD]
    · rw [hσc]; exact fun g hg => ⟨hg, rfl⟩
  have hblk : ∀ i g, Fp D ((bst bs.length bs).env D (opMem D w σc νc bs) w σc νc) i ((bst bs.length bs).box i) g → ∃ b, ids[i]? = some b ∧ Fp D (S.env D M w0 σ ν) b (S.box b) g := by
    intro i g hg
    rw [bst_box] at hg
    cases hbi : bs[i]? with
    | none => rw [hbi] at hg; cases hg
    | some s =>
      rw [hbi, Option.getD_some] at hg
      obtain ⟨b, h1, h2, h3, h4, h5⟩ := hget i s hbi
      refine ⟨b, h1, ?_⟩
      exact (rnB_blk (E := S.env D M w0 σ ν) (F := (bst bs.length bs).env D (opMem D w σc νc bs) w σc νc) h3 h4 h5 h2).1 hg
  have hfoot : Foot D M w0 σ ν S ids (opMem D w σc νc bs).f := by
    rintro g ⟨i, hi⟩
    obtain ⟨b, h1, h2⟩ := hblk i g hi
    exact ⟨b, List.mem_of_getElem? h1, h2⟩
  refine ⟨⟨fun i => ?_, fun i i' g hne h1 h2 => ?_, fun i g h => .inr ⟨i, h⟩, Kept.refl _ w, fun g hg => ?_, fun i g h hz => ?_, fun i hi => ⟨rfl, rfl, ?_⟩, ⟨hR.globAt, fun g k l hg hm => ?_⟩, fun g hg => ⟨hg, rfl⟩, fun g hg => .inl hg⟩, hfoot, hren⟩
  · rw [bst_box]
    cases hbi : bs[i]? with
    | none => trivial
    | some s =>
      rw [Option.getD_some]
      obtain ⟨b, h1, h2, h3, h4, h5⟩ := hget i s hbi
      exact rnB_rel hren (b := b) h3 h4 h5 h2 (hR.boxes b)
  · obtain ⟨b, q1, q2⟩ := hblk i g h1
    obtain ⟨b', p1, p2⟩ := hblk i' g h2
    refine hR.disj b b' g (fun e => hne ?_) q2 p2
    subst e
    exact (List.getElem?_inj (List.getElem?_eq_some_iff.1 q1).1 hnd).1 (by rw [q1, p1])
  · have hz : σ.zm g := by rw [hσc] at hg; exact hg
    have := hR.zk g hz
    refine ⟨this.1, ?_⟩
    rw [hσc]; exact this.2
  · obtain ⟨b, q1, q2⟩ := hblk i g h
    exact hR.zd b g q2 (by rw [hσc] at hz; exact hz)
  · obtain ⟨s, hs⟩ : ∃ s, bs[i]? = some s := ⟨_, List.getElem?_eq_getElem hi⟩
    obtain ⟨b, h1, h2, _⟩ := hget i s hs
    rw [bst_box, hs]; exact (rnB_al h2).2
  · obtain ⟨b, _, hb⟩ := hfoot g hm
    have hlt := (hR.glob.1 g k l hg).1
    rcases hR.lo b g hb with h | h
    · omega
    · exact hR.glob.2 g k l hg h
theorem opA_sound {nid : Nat} {modes : List Bool} {F : List (BoxSt D.τ) → List (A0 D.τ) → Option (AV D.τ × List (BoxSt D.τ) × List Prop)} {f : FuncId} (hF : OpOK P D f F) {as : List (AV D.τ)} {vs : List Value} {ts : List TypeId} {S : St D.τ} {r : Res D.τ} {l : List Ref}
    (h : (oOpA P D nid modes F as ts).run S = some (r, l)) (hps : ∀ p ∈ r.ps, p) {M : Mem} {w0 : World} {σ : Loc} {ν : Nat → Value} {a : Act} {w : World} (hR : RR D M w0 σ ν S w) (hA : RA D M w0 σ ν S a) (hvs : AVsRel (S.env D M w0 σ ν) as vs) :
    UpTo P (Lands M w0 S a r) ((callFunc f vs.toArray).run P w) := by
  unfold oOpA at h
  obtain ⟨ids, l2, h⟩ := reach_run h
  cases hnd : nodupB ids <;> simp only [hnd, cond_true, cond_false, run_fail] at h
  obtain ⟨l3, h⟩ := rdBs_run h
  split at h
  · rename_i bs hbs
    obtain ⟨hst, hfoot, hren⟩ := start_op hR (nodupB_spec hnd) hbs (σc := ⟨fun i => σ (ids.getD i 0), σ.zw, σ.zm, fun i => σ.φ (ids.getD i 0)⟩) (νc := fun i => ν (ids.getD i 0)) rfl rfl
    obtain ⟨xs, l4, h, hxs⟩ := passAs_sound hR hfoot rfl rfl hren h hvs
    split at h
    · rename_i r0 bs' ps hFx
      cases hlen : Nat.ble ids.length bs'.length <;> simp only [hlen, cond_true, cond_false, run_fail] at h
      split at h
      · rename_i r' hr'
        split at h
        · rename_i us hus
          obtain ⟨⟨l5, h⟩, hun⟩ := rdUn_run h
          simp only [run_ret] at h
          obtain ⟨rfl, _⟩ := h
          obtain ⟨g, gargs, hrun, hc⟩ := hF bs xs r0 bs' ps hFx hps w _ _ _ hst hxs
          rw [hrun]
          exact hc.mono fun en w' ⟨v, hen, σ', ν', hR', hv⟩ => ⟨v, hen, lands_op hR hA (nodupB_spec hnd) hbs rfl (Nat.le_of_ble_eq_true hlen) hun hr' hus hR' hv⟩
        · simp at h
      · simp at h
    · simp at h
  · simp at h
theorem rnL_back {ρ τ : Nat → Option Nat} (h : ∀ b c, ρ b = some c → τ c = some b) : ∀ {bs cs : List Nat}, rnL ρ bs = some cs → rnL τ cs = some bs
  | [], cs, e => by simp only [rnL, Option.some.injEq] at e; subst e; rfl
  | b :: bs, cs, e => by
    simp only [rnL] at e
    split at e
    · rename_i c hc
      split at e
      · rename_i ds hd
        simp only [Option.some.injEq] at e; subst e
        simp only [rnL, h b c hc, rnL_back h hd]
      · cases e
    · cases e
theorem rnC_back {ρ τ : Nat → Option Nat} (h : ∀ b c, ρ b = some c → τ c = some b) : ∀ {cs ds : List C1}, rnC ρ cs = some ds → rnC τ ds = some cs
  | [], ds, e => by simp only [rnC, Option.some.injEq] at e; subst e; rfl
  | .s x :: cs, ds, e => by
    obtain ⟨r, hr, rfl⟩ := Option.map_eq_some_iff.1 e
    simp only [rnC, rnC_back h hr, Option.map_some]
  | .i k n :: cs, ds, e => by
    obtain ⟨r, hr, rfl⟩ := Option.map_eq_some_iff.1 e
    simp only [rnC, rnC_back h hr, Option.map_some]
  | .o b :: cs, ds, e => by
    simp only [rnC] at e
    split at e
    · rename_i c hc
      obtain ⟨r, hr, rfl⟩ := Option.map_eq_some_iff.1 e
      simp only [rnC, h _ _ hc, rnC_back h hr, Option.map_some]
    · cases e
theorem rnP_back {ρ τ : Nat → Option Nat} (h : ∀ b c, ρ b = some c → τ c = some b) {p q : Part D.τ} (e : rnP D ρ p = some q) : rnP D τ q = some p := by
  cases p <;> simp only [rnP] at e <;> first
    | (cases e; rfl)
    | (cases e; done)
    | (split at e
       · rename_i c hc
         simp only [Option.some.injEq] at e
         subst e
         first
           | (simp only [rnP, h _ _ hc])
           | (simp only [rnP, rnC_back h hc])
           | (simp only [rnP, rnL_back h hc])
       · cases e)
theorem rnPs_back {ρ τ : Nat → Option Nat} (h : ∀ b c, ρ b = some c → τ c = some b) : ∀ {ps qs : List (Part D.τ)}, rnPs D ρ ps = some qs → rnPs D τ qs = some ps
  | [], qs, e => by simp only [rnPs, Option.some.injEq] at e; subst e; rfl
  | p :: ps, qs, e => by
    simp only [rnPs] at e
    split at e
    · rename_i c hc
      split at e
      · rename_i ds hd
        simp only [Option.some.injEq] at e; subst e
        simp only [rnPs, rnP_back h hc, rnPs_back h hd]
      · cases e
    · cases e
theorem rnB_back {ρ τ : Nat → Option Nat} (h : ∀ b c, ρ b = some c → τ c = some b) {p q : BoxSt D.τ} (e : rnB D ρ p = some q) : rnB D τ q = some p := by
  unfold rnB at e
  split at e
  · cases e
  · cases e; rfl
  · split at e
    · rename_i qs hq
      cases e
      simp only [rnB, rnPs_back h hq]
    · cases e
  · split at e
    · rename_i qs hq
      cases e
      simp only [rnB, rnP_back h hq]
    · cases e
  · cases e; rfl
  · split at e
    · rename_i qs hq
      cases e
      simp only [rnB, rnPs_back h hq]
    · cases e
theorem rnBs_back {ρ τ : Nat → Option Nat} (h : ∀ b c, ρ b = some c → τ c = some b) : ∀ {ps qs : List (BoxSt D.τ)}, rnBs D ρ ps = some qs → rnBs D τ qs = some ps
  | [], qs, e => by simp only [rnBs, Option.some.injEq] at e; subst e; rfl
  | p :: ps, qs, e => by
    simp only [rnBs] at e
    split at e
    · rename_i c hc
      split at e
      · rename_i ds hd
        simp only [Option.some.injEq] at e; subst e
        simp only [rnBs, rnB_back h hc, rnBs_back h hd]
      · cases e
    · cases e
theorem rnBs_append {ρ : Nat → Option Nat} : ∀ {ps qs us vs : List (BoxSt D.τ)}, rnBs D ρ ps = some us → rnBs D ρ qs = some vs → rnBs D ρ (ps ++ qs) = some (us ++ vs)
  | [], _, us, vs, h, k => by simp only [rnBs, Option.some.injEq] at h; subst h; exact k
  | p :: ps, qs, us, vs, h, k => by
    simp only [rnBs] at h
    split at h
    · rename_i c hc
      split at h
      · rename_i ds hd
        simp only [Option.some.injEq] at h; subst h
        simp only [List.cons_append, rnBs, hc, rnBs_append hd k]
      · cases h
    · cases h
theorem zipU_append {τ : Type} : ∀ (is : List Nat) (ss : List (BoxSt τ)) (js : List Nat) (us : List (BoxSt τ)), is.length = ss.length → zipU (is ++ js) (ss ++ us) = zipU is ss ++ zipU js us
  | [], [], _, _, _ => rfl
  | [], _ :: _, _, _, h => by simp at h
  | _ :: _, [], _, _, h => by simp at h
  | i :: is, s :: ss, js, us, h => by simp only [List.cons_append, zipU, zipU_append is ss js us (by simpa using h)]
theorem bx_id : ∀ (is : List Nat) (S : St D.τ), S.bx (zipU is (is.map S.box)) = S
  | [], _ => rfl
  | i :: is, S => by
    have hS : S.upd (.box i (S.box i)) = S := by
      unfold St.upd
      cases S with
      | mk slot box nt np =>
        simp only [St.mk.injEq, true_and, and_true]
        funext j
        by_cases hj : j = i
        · subst hj; rw [Nat.beq_refl]; rfl
        · rw [beq_ne hj]; rfl
    show (S.upd (.box i (S.box i))).bx (zipU is (is.map S.box)) = S
    rw [hS]
    exact bx_id is S
theorem bx_app2 : ∀ (us vs : List (Nat × BoxSt D.τ)) (S : St D.τ), S.bx (us ++ vs) = (S.bx us).bx vs
  | [], _, _ => rfl
  | u :: us, vs, S => by
    show (S.upd (.box u.1 u.2)).bx (us ++ vs) = _
    rw [bx_app2 us vs]
    rfl
theorem rdA_sound {nid : Nat} {modes : List Bool} {F : List (BoxSt D.τ) → List (A0 D.τ) → Option (AV D.τ × List (BoxSt D.τ) × List Prop)} {f : FuncId} (hF : OpOK P D f (withNew F)) {as : List (AV D.τ)} {vs : List Value} {ts : List TypeId} {S : St D.τ} {r : Res D.τ} {l : List Ref}
    (h : (oRdA P D nid modes F as ts).run S = some (r, l)) (hps : ∀ p ∈ r.ps, p) {M : Mem} {w0 : World} {σ : Loc} {ν : Nat → Value} {a : Act} {w : World} (hR : RR D M w0 σ ν S w) (hA : RA D M w0 σ ν S a) (hvs : AVsRel (S.env D M w0 σ ν) as vs) :
    UpTo P (Lands M w0 S a r) ((callFunc f vs.toArray).run P w) := by
  unfold oRdA at h
  obtain ⟨ids, l2, h⟩ := reach_run h
  cases hnd : nodupB ids <;> simp only [hnd, cond_true, cond_false, run_fail] at h
  obtain ⟨l3, h⟩ := rdBs_run h
  split at h
  · rename_i bs hbs
    obtain ⟨hst, hfoot, hren⟩ := start_op hR (nodupB_spec hnd) hbs (σc := ⟨fun i => σ (ids.getD i 0), σ.zw, σ.zm, fun i => σ.φ (ids.getD i 0)⟩) (νc := fun i => ν (ids.getD i 0)) rfl rfl
    obtain ⟨xs, l4, h, hxs⟩ := passAs_sound hR hfoot rfl rfl hren h hvs
    split at h
    · rename_i r0 ns ps hFx
      split at h
      · rename_i r' hr'
        split at h
        · rename_i us hus
          obtain ⟨⟨l5, h⟩, hun⟩ := rdUn_run h
          simp only [run_ret] at h
          obtain ⟨rfl, _⟩ := h
          have hbl : bs.length = ids.length := by
            have := (rnBs_get hbs).1
            rwa [List.length_map] at this
          have hlen : (bs ++ ns).length - ids.length = ns.length := by rw [List.length_append]; omega
          have hFw : withNew F bs xs = some (r0, bs ++ ns, ps) := by unfold withNew; rw [hFx]
          obtain ⟨g, gargs, hrun, hc⟩ := hF bs xs r0 _ ps hFw hps w _ _ _ hst hxs
          rw [hrun]
          have hback : rnBs D (fun i => (ids ++ newIds nid ns.length)[i]?) bs = some (ids.map S.box) := by
            refine rnBs_back (fun b c hbc => ?_) hbs
            have := idx_spec hbc
            have hlt := (List.getElem?_eq_some_iff.1 this).1
            rw [List.getElem?_append_left hlt]
            exact this
          refine hc.mono fun en w' ⟨v, hen, σ', ν', hR', hv⟩ => ⟨v, hen, ?_⟩
          have hL := lands_op (js := ids ++ newIds nid ns.length) (us := ids.map S.box ++ us) (qs := ps) hR hA (nodupB_spec hnd) hbs (by rw [hlen]) (by rw [List.length_append]; omega) (by rw [hlen]; exact hun) hr' (rnBs_append hback hus) hR' hv
          rw [zipU_append _ _ _ _ (by rw [List.length_map])] at hL
          unfold Lands at hL ⊢
          simp only [bx_app2, bx_id] at hL
          exact hL
        · simp at h
      · simp at h
    · simp at h
  · simp at h
theorem callA_sound {Γ : Gam D} (hΓ : GamOK P D Γ) {nid : Nat} {f : FuncId} {as : List (AV D.τ)} {vs : List Value} {ts : List TypeId} {S : St D.τ} {r : Res D.τ} {l : List Ref}
    (h : (callA P D Γ nid f as ts).run S = some (r, l)) (hps : ∀ p ∈ r.ps, p) {M : Mem} {w0 : World} {σ : Loc} {ν : Nat → Value} {a : Act} {w : World} (hR : RR D M w0 σ ν S w) (hA : RA D M w0 σ ν S a) (hvs : AVsRel (S.env D M w0 σ ν) as vs) :
    UpTo P (Lands M w0 S a r) ((callFunc f vs.toArray).run P w) := by
  unfold callA at h
  split at h
  · rename_i F hF
    obtain ⟨xs, l2, h, hxs⟩ := lendAs_sound hR foot_nil h hvs
    split at h
    · rename_i r' ps hr'
      split at h
      · rename_i x ds hds
        obtain ⟨⟨l3, h⟩, hun⟩ := rdUn_run h
        simp only [run_ret] at h
        obtain ⟨rfl, _⟩ := h
        have hFn : FnOK P D f F := hΓ.get hF
        obtain ⟨n, hrun, hn⟩ := hFn xs r' ps hr' hps w _ hR.globAt (hxs (cenv w) rfl rfl (fun g hg => hR.zk g hg) (fun _ => ⟨rfl, fun _ h => h⟩))
        rw [hrun]
        cases n <;> simp only at hn <;> simp only [UpTo]
        case value v => exact lands_call hR hA hun hds hn (Below.refl _ _)
        case enter g vs => exact hn.mono fun e w' ⟨v, he, hv, hb⟩ => ⟨v, he, lands_call hR hA hun hds hv hb⟩
      · simp at h
    · simp at h
  · rename_i F hF
    obtain ⟨xs, l2, h, hxs⟩ := lendAs_sound hR foot_nil h hvs
    split at h
    · rename_i r' ps hr'
      split at h
      · rename_i b e k il hds
        cases hb : Nat.beq b nid <;> simp only [hb, cond_true, cond_false, run_fail] at h
        have := Nat.eq_of_beq_eq_true hb
        subst this
        obtain ⟨⟨l3, h⟩, hun⟩ := rdUn_run h
        simp only [run_ret] at h
        obtain ⟨rfl, _⟩ := h
        have hFn : FnOK P D f F := hΓ.get hF
        obtain ⟨n, hrun, hn⟩ := hFn xs r' ps hr' hps w _ hR.globAt (hxs (cenv w) rfl rfl (fun g hg => hR.zk g hg) (fun _ => ⟨rfl, fun _ h => h⟩))
        rw [hrun]
        cases n <;> simp only at hn <;> simp only [UpTo]
        case value v => exact lands_fz (e := e) (lands_call (nid := b) (ds := [(e, k, il)]) hR hA hun hds hn (Below.refl _ _))
        case enter g vs => exact hn.mono fun e' w' ⟨v, he, hv, hb⟩ => ⟨v, he, lands_fz (e := e) (lands_call (nid := b) (ds := [(e, k, il)]) hR hA hun hds hv hb)⟩
      · simp at h
    · simp at h
  · rename_i modes F hF
    have hFn : OpOK P D f F := hΓ.get hF
    exact opA_sound hFn h hps hR hA hvs
  · rename_i modes F hF
    have hFn : OpOK P D f (withNew F) := hΓ.get hF
    exact rdA_sound hFn h hps hR hA hvs
  · simp at h
theorem sound_call {Γ : Gam D} (hΓ : GamOK P D Γ) (nid : Nat) (f : FuncId) (args : Array Operand) (ts : List TypeId) :
    Sound P D (oCall P D Γ nid f args.toList ts) (fun ρ => callFunc f (args.map ρ)) := by
  intro S r l h hps M w0 a w ⟨σ, ν, hR, hA⟩
  unfold oCall at h
  obtain ⟨as, l1, has, h⟩ := rdAs_run h
  have := callA_sound hΓ h hps hR hA (evalAs_rel hA has)
  have he : (args.toList.map a.eval).toArray = args.map a.eval := by apply Array.ext'; simp
  rw [he] at this
  exact this
theorem run_invokeOp (ρ : Operand → Value) (c : Call) (x : Operand) (name : String) (ty : TypeId) (w : World) (hc : c.callee = .invoke x name) :
    (do let d ← resolve ρ c ty; invoke d.target d.args : Sem Next).run P w = (callMethod (ρ x) name (c.args.map ρ)).run P w := by
  have h0 : (#[ρ x] ++ c.args.map ρ)[0]? = some (ρ x) := by simp [Array.getElem?_append]
  have h1 : (#[ρ x] ++ c.args.map ρ).extract 1 (#[ρ x] ++ c.args.map ρ).size = c.args.map ρ := by
    apply Array.ext'
    simp only [Array.toList_extract, Array.toList_append, List.extract_eq_take_drop, Array.size_append]
    simp
    exact List.take_of_length_le (by simp)
  simp only [resolve, hc, Sem.run_bind, Sem.run_pure, Result.andThen_ok, invoke, h0, h1]
theorem AVsRel.append {E : Env} : ∀ {as bs : List (AV D.τ)} {vs us : List Value}, AVsRel E as vs → AVsRel E bs us → AVsRel E (as ++ bs) (vs ++ us)
  | [], _, _, _, h, k => by cases h; exact k
  | _ :: _, _, _, _, ⟨v, ws, e, h1, h2⟩, k => ⟨v, ws ++ _, by rw [e]; rfl, h1, AVsRel.append h2 k⟩
theorem sound_invoke {Γ : Gam D} (hΓ : GamOK P D Γ) (nid : Nat) (x : Operand) (name : String) (args : Array Operand) (ts : List TypeId) :
    Sound P D (oInvoke P D Γ nid x name args.toList ts) (fun ρ => callMethod (ρ x) name (args.map ρ)) := fun _ _ _ h => (run_fail.1 h).elim
theorem sound_callV {Γ : Gam D} (hΓ : GamOK P D Γ) (nid : Nat) (c : Call) (x : Operand) (ty : TypeId) (hc : c.callee = .value x) :
    Sound P D (oCallV P D Γ nid x c.args.toList c.argTypes.toList) (fun ρ => do let d ← resolve ρ c ty; invoke d.target d.args) := fun _ _ _ h => (run_fail.1 h).elim
theorem freeze_world {w : World} {g k : Nat} {cur : Array Value} {e : TypeId} (hg : w.heap[g]? = some (.cells cur e (0, 0))) :
    (w.freeze ⟨g, k, none⟩ 1).heap[g]? = some (.cells cur e (k, k + 1)) ∧ (∀ h, h ≠ g → (w.freeze ⟨g, k, none⟩ 1).heap[h]? = w.heap[h]?) ∧ (w.freeze ⟨g, k, none⟩ 1).heap.size = w.heap.size ∧ (w.freeze ⟨g, k, none⟩ 1).os = w.os ∧ (w.freeze ⟨g, k, none⟩ 1).tape = w.tape ∧ (w.freeze ⟨g, k, none⟩ 1).output = w.output := by
  unfold World.freeze
  rw [if_neg (by decide)]
  refine ⟨?_, fun h hh => ?_, ?_, rfl, rfl, rfl⟩
  · simp only [Array.getElem?_modify, if_true, hg, Option.map_some]
    rfl
  · simp only [Array.getElem?_modify, if_neg (Ne.symm hh)]
  · simp
theorem sound_convert2 (s t : TypeId) (x : Operand) : Sound P D (oConvert2 P D s t x) (fun ρ => do pure (.value (← convert s t (ρ x)))) := by
  intro S r l h hps M w0 a w hRA
  unfold oConvert2 at h
  obtain ⟨av, l0, hav, h⟩ := rdA_run h
  split at h
  · rename_i b
    cases hst : Nat.beq s t <;> simp only [hst, cond_true, cond_false, run_fail] at h
    have := Nat.eq_of_beq_eq_true hst
    subst this
    split at h
    · rename_i e ht
      split at h
      · rename_i he
        obtain ⟨l1, h⟩ := box_run h
        split at h
        · rename_i e' k il hbx
          simp only [run_ret] at h
          obtain ⟨rfl, _⟩ := h
          have hpos : 0 < il.length := hps _ (by simp)
          obtain ⟨σ, ν, hR, hA⟩ := hRA
          obtain ⟨_, hal, h1c, hv⟩ := evalA_rel hA hav
          have hv' : a.eval x = ν b := (List.cons.inj hv).1
          have hb := hR.boxes b
          rw [hbx] at hb
          obtain ⟨n, xs, hown, hp, _⟩ := hb
          simp only [PartRel] at hp
          subst hp
          have hown' : w.ownsL 0 e' 1 (ν b) n (il.map (Value.int k)) := hown
          have hn : il.length = n := by have := hown'.1; simpa using this
          rcases hown'.2 with ⟨_, hz⟩ | ⟨g, cap, cur, hνe, _, hcur, hnc, hcm, hcs, htk⟩
          · omega
          have hblk : Fp D (S.env D M w0 σ ν) b (S.box b) g := by rw [hbx]; show (ν b).ownBlock = _; rw [hνe]; rfl
          have hsh : w.shape? g = some (e', cur.size) := by unfold World.shape?; rw [hcur]
          obtain ⟨f1, f2, f3, f4, f5, f6⟩ := freeze_world (k := cur.size) hcur
          generalize hw' : w.freeze ⟨g, cur.size, none⟩ 1 = w' at f1 f2 f3 f4 f5 f6
          have hrun : (convert s s (a.eval x)).run P w = .ok (a.eval x) w' := by
            rw [hv', hνe, ← hw']
            simp [convert, run_underlying ht, run_underlying he, markStringish, hsh]
          refine upTo_val hrun ?_
          have hle : (S.env D M w0 σ ν).le ((S.upd (.box b .dead)).env D M w0 ⟨σ.f, w', fun h => σ.zm h ∨ h = g, σ.φ⟩ ν) := by
            refine ⟨fun c h => ?_, fun _ _ => rfl, fun _ _ => rfl, rfl, rfl, ⟨rfl, rfl⟩, fun h hz => ⟨.inl hz, ?_⟩⟩
            · show ((S.upd (.box b .dead)).box c).al
              by_cases hc : c = b
              · subst hc; rw [upd_box_same]; trivial
              · rw [upd_box_other S _ hc]; exact h
            · have hne : h ≠ g := fun e => hR.zd b g hblk (e ▸ hz)
              show w'.heap[h]? = _
              rw [f2 h hne]; exact (hR.zk h hz).2
          refine ⟨⟨σ.f, w', fun h => σ.zm h ∨ h = g, σ.φ⟩, ν, ?_, ?_, ?_⟩
          · rw [bx_one]
            refine hR.step hle (fun _ => False) (fun _ h => h.elim) (fun c _ => ?_) (fun _ _ _ h => h.elim) (fun _ _ h => h.elim) ?_ rfl (fun h hz => ?_) (fun _ _ h => h.elim) (fun c h _ hc he' hz => ?_) (fun h hz => ?_)
            · by_cases hc : c = b
              · subst hc; exact .inr (upd_box_same _ _ _)
              · refine .inl ⟨upd_box_other S _ hc, fun h hh => f2 h (fun e => ?_)⟩
                subst e
                exact hR.disj c b h hc hh hblk
            · refine ⟨f4.trans hR.kept.os, f5.trans hR.kept.tape, f6.trans hR.kept.output, by rw [f3]; exact hR.kept.size, fun h hh hm => ?_⟩
              rw [← hR.kept.block h hh hm]
              refine f2 h (fun e => ?_)
              subst e
              rcases hR.lo b h hblk with h1 | h1
              · omega
              · exact hm h1
            · rcases hz with hz | hz
              · have hne : h ≠ g := fun e => hR.zd b g hblk (e ▸ hz)
                exact ⟨by rw [f3]; exact (hR.zk h hz).1, rfl⟩
              · subst hz; exact ⟨by rw [f3]; exact blk_lt hR hblk, rfl⟩
            · rcases hz with hz | hz
              · exact hR.zd c h hc hz
              · subst hz
                by_cases hcb : c = b
                · subst hcb
                  rw [upd_box_same] at he'
                  rw [← he'] at hc
                  cases hc
                · exact hR.disj c b h hcb hc hblk
            · rcases hz with hz | hz
              · exact .inl hz
              · subst hz; exact .inr (hR.lo b h hblk)
          · rw [bx_one]; exact hA.mono hle rfl rfl
          · refine ⟨by rw [hv', hνe]; rfl, _, rfl, some ⟨g, 0, none⟩, cap, by rw [hv', hνe, hn], by omega, hcm, (fun h => by cases h), fun i hi => ⟨g, 0, rfl, fun hz => hz (.inr rfl), ?_⟩⟩
            have := hown'.cells (g := g) (by rw [hνe]; rfl) i _ (getD_ints hi)
            rw [Addr.add_lit] at this
            rw [cell_of_row w g _ cur e' _ hcur] at this
            show w'.cell? _ = _
            rw [cell_of_row w' g _ cur e' _ f1]
            exact this
        · simp at h
      · simp at h
    · simp at h
  · rename_i k l
    split at h
    · rename_i e hs ht
      split at h
      · rename_i he
        have hr := ok1_run h
        subst hr
        obtain ⟨σ, ν, hR, hA⟩ := hRA
        obtain ⟨_, v, hv, ao, cap, rfl, hlc, hcm, hn, hc⟩ := evalA_rel hA hav
        have hv' : a.eval x = .slice ao l.length cap := (List.cons.inj hv).1
        have key : (convert s t (a.eval x)).run P w = .ok (.string ⟨(l.map fun n => UInt8.ofNat n.toNat).toArray⟩) w := by
          rw [hv']
          cases ao with
          | none =>
            have : l = [] := by
              cases l with
              | nil => rfl
              | cons y ys => obtain ⟨b, off, h1, _⟩ := hc 0 (by simp); cases h1
            subst this
            simp [convert, run_underlying hs, run_underlying ht, run_underlying he, Conv.bytesToString]
            rfl
          | some ad =>
            have hl := run_loadCells_list (P := P) w ad (l.map (Value.int .u8)) (fun j v hj => by
              have hjl : j < l.length := by
                rcases Nat.lt_or_ge j l.length with h | h
                · exact h
                · rw [List.getElem?_eq_none (by simpa using h)] at hj; cases hj
              obtain ⟨b, off, h1, h2, h3⟩ := hc j hjl
              cases h1
              have hz : σ.zm b := Classical.not_not.1 h2
              rw [getD_ints hjl] at hj
              cases hj
              rw [Addr.add_lit]
              rw [← h3]
              unfold World.cell?
              simp only [(hR.zk b hz).2]
              rfl)
            rw [List.length_map] at hl
            have hb := run_bytesToString w ad l.length cap l hl
            have hf : ∀ (l : List Int) (s : ByteArray), l.foldl (fun r n => r.push (UInt8.ofNat n.toNat)) s = ⟨s.data ++ (l.map fun n => UInt8.ofNat n.toNat).toArray⟩ := by
              intro l
              induction l with
              | nil => intro s; simp
              | cons y ys ih => intro s; rw [List.foldl_cons, ih]; simp [ByteArray.push]
            rw [hf] at hb
            simp [convert, run_underlying hs, run_underlying ht, run_underlying he, hb]
        exact upTo_val key (lands_pure hR hA ⟨rfl, rfl⟩)
      · simp at h
    · simp at h
  · exact sound_convert s t x S r _ h hps M w0 a w hRA
theorem sound_slice3 (nid : Nat) (t : TypeId) (x y z : Operand) : Sound P D (oSlice3 P D nid t x y z) (fun ρ => do pure (.value (← Instr.sliceAt t (ρ x) none (some (ρ y)) (some (ρ z))))) := fun _ _ _ h => (run_fail.1 h).elim
theorem list3 {α : Type} {a : Array α} {x y z : α} (h : a.toList = [x, y, z]) : a = #[x, y, z] := by rw [← Array.toList_inj]; exact h
theorem aop0_sound {Γ : Gam D} (hΓ : GamOK P D Γ) (nid : Nat) (o : Oper) : Sound P D (aop0 P D Γ nid o) (fun ρ => execOp ρ o) := by
  intro S r l h hps M w0 a w hR
  unfold aop0 at h
  split at h
  · rename_i x e; have := sound_move (P := P) x S r l h hps M w0 a w hR; simpa only [execOp, e] using this
  · rename_i x e; have := sound_move (P := P) x S r l h hps M w0 a w hR; simpa only [execOp, e] using this
  · rename_i c x y e; have := sound_pick (P := P) c x y S r l h hps M w0 a w hR; simpa only [execOp, e] using this
  · rename_i t e; have := sound_alloc (P := P) nid t S r l h hps M w0 a w hR; simpa only [execOp, e] using this
  · rename_i t x e; have := sound_boxP (P := P) nid t x S r l h hps M w0 a w hR; simpa only [execOp, e] using this
  · rename_i t parts e; have := sound_build (P := P) t parts S r l h hps M w0 a w hR; simpa only [execOp, e] using this
  · rename_i t x e; have := sound_load6 (P := P) Γ nid o.dst t x S r l h hps M w0 a w hR; simpa only [execOp, e] using this
  · rename_i t x y e; have := sound_store6 (P := P) t x y S r l h hps M w0 a w hR; simpa only [execOp, e] using this
  · rename_i x e; exact sound_nilCheck (P := P) o x e S r l h hps M w0 a w hR
  · rename_i s x i e; have := sound_fieldAddrR (P := P) s x i S r l h hps M w0 a w hR; simpa only [execOp, e] using this
  · rename_i s x i e; have := sound_field (P := P) s x i S r l h hps M w0 a w hR; simpa only [execOp, e] using this
  · rename_i t x y e; have := sound_indexAddr6 (P := P) t x y S r l h hps M w0 a w hR; simpa only [execOp, e] using this
  · rename_i t x y e; have := sound_index (P := P) t x y S r l h hps M w0 a w hR; simpa only [execOp, e] using this
  · rename_i x i e; have := sound_extract (P := P) x i S r l h hps M w0 a w hR; simpa only [execOp, e] using this
  · rename_i op t x y yt e; have := sound_bin3 (P := P) op t x y S r l h hps M w0 a w hR; simpa only [execOp, e, valOf] using this
  · rename_i op t x e; have := sound_un (P := P) op x S r l h hps M w0 a w hR; simpa only [execOp, e] using this
  · rename_i s t x e; have := sound_convert2 (P := P) s t x S r l h hps M w0 a w hR; simpa only [execOp, e] using this
  · rename_i t x lo hi e; have := sound_sliceE (P := P) Γ nid o.dst t x lo hi S r l h hps M w0 a w hR; simpa only [execOp, e, Option.map_none] using this
  · rename_i t x y z e; have := sound_slice3 (P := P) nid t x y z S r l h hps M w0 a w hR; simpa only [execOp, e, Option.map_none, Option.map_some] using this
  · rename_i t x e; have := sound_arrPtr (P := P) t x S r l h hps M w0 a w hR; simpa only [execOp, e] using this
  · rename_i t x c e; have := sound_makeSlice (P := P) nid t x c S r l h hps M w0 a w hR; simpa only [execOp, e] using this
  · rename_i t len parts e; have := sound_build6 (P := P) nid t len parts S r l h hps M w0 a w hR; simpa only [execOp, e] using this
  · rename_i t x e; have := sound_makeIface (P := P) t x S r l h hps M w0 a w hR; simpa only [execOp, e] using this
  · rename_i x xt t ok e; have := sound_typeAssert (P := P) x xt t ok S r l h hps M w0 a w hR; simpa only [execOp, e] using this
  · rename_i fn first captured e; have := sound_makeFunc (P := P) fn first captured S r l h hps M w0 a w hR; simpa only [execOp, e] using this
  · rename_i t x e; have := sound_makeMap (P := P) nid t x S r l h hps M w0 a w hR; simpa only [execOp, e] using this
  · rename_i t x y ok e; have := sound_lookup (P := P) Γ nid o.dst t x y ok S r l h hps M w0 a w hR; simpa only [execOp, e] using this
  · rename_i t x y z e; have := sound_update (P := P) t x y z S r l h hps M w0 a w hR; simpa only [execOp, e] using this
  · rename_i c e
    simp only [execOp, e]
    split at h
    · rename_i f hc
      rw [run_callOp a.eval c f o.type w hc rfl]
      exact sound_call hΓ nid f c.args _ S r l h hps M w0 a w hR
    · rename_i hc
      split at h
      · rename_i x t hx ht
        rw [run_builtinOp a.eval c _ o.type w hc]
        have := sound_len1 (P := P) x t o.type S r l h hps M w0 a w hR
        rw [list1 hx, list1 ht]
        simpa only [builtin, valOf, List.map_toArray, List.map_cons, List.map_nil] using this
      · simp at h
    · rename_i hc
      split at h
      · rename_i x y t u hx ht
        rw [run_builtinOp a.eval c _ o.type w hc]
        have := sound_append6 (P := P) nid x y t u o.type S r l h hps M w0 a w hR
        rw [list2 hx, list2 ht]
        simpa only [builtin, valOf, List.map_toArray, List.map_cons, List.map_nil] using this
      · simp at h
    · rename_i hc
      split at h
      · rename_i x y t u hx ht
        rw [run_builtinOp a.eval c _ o.type w hc]
        have := sound_copy2 (P := P) x y t u o.type S r l h hps M w0 a w hR
        rw [list2 hx, list2 ht]
        simpa only [builtin, valOf, List.map_toArray, List.map_cons, List.map_nil] using this
      · simp at h
    · rename_i hc
      split at h
      · rename_i x y hx
        rw [run_builtinOp a.eval c _ o.type w hc]
        have := sound_min (P := P) (ts := c.argTypes) (ty := o.type) x y S r l h hps M w0 a w hR
        rw [list2 hx]
        simpa only [builtin, valOf, List.map_toArray, List.map_cons, List.map_nil] using this
      · rename_i x y z hx
        rw [run_builtinOp a.eval c _ o.type w hc]
        have := sound_min3 (P := P) (ts := c.argTypes) (ty := o.type) x y z S r l h hps M w0 a w hR
        rw [list3 hx]
        simpa only [builtin, valOf, List.map_toArray, List.map_cons, List.map_nil] using this
      · simp at h
    · rename_i hc
      split at h
      · rename_i x y hx
        rw [run_builtinOp a.eval c _ o.type w hc]
        have := sound_max (P := P) (ts := c.argTypes) (ty := o.type) x y S r l h hps M w0 a w hR
        rw [list2 hx]
        simpa only [builtin, valOf, List.map_toArray, List.map_cons, List.map_nil] using this
      · simp at h
    · rename_i hc
      split at h
      · rename_i x t hx ht
        rw [run_builtinOp a.eval c _ o.type w hc]
        have := sound_clear (P := P) x t o.type S r l h hps M w0 a w hR
        rw [list1 hx, list1 ht]
        simpa only [builtin, valOf, List.map_toArray, List.map_cons, List.map_nil] using this
      · simp at h
    · rename_i hc
      split at h
      · rename_i x y t u hx ht
        rw [run_builtinOp a.eval c _ o.type w hc]
        have := sound_delete (P := P) x y t u o.type S r l h hps M w0 a w hR
        rw [list2 hx, list2 ht]
        simpa only [builtin, valOf, List.map_toArray, List.map_cons, List.map_nil] using this
      · simp at h
    · rename_i x hx hc
      exact sound_callV hΓ nid c x o.type hc S r l h hps M w0 a w hR
    · rename_i x name hc
      rw [run_invokeOp a.eval c x name o.type w hc]
      exact sound_invoke hΓ nid x name c.args _ S r l h hps M w0 a w hR
    · simp at h
  · simp at h
theorem map_run {α β : Type} {f : α → β} {S : St D.τ} : ∀ {m : Rd D.τ α} {b : β} {l : List Ref}, (m.map f).run S = some (b, l) → ∃ a, m.run S = some (a, l) ∧ f a = b := by
  intro m
  induction m with
  | ret a => intro b l h; simp only [Rd.map, run_ret] at h; exact ⟨a, by simp [h.2], h.1⟩
  | fail => intro b l h; simp [Rd.map] at h
  | slot t k ih =>
    intro b l h
    simp only [Rd.map, Rd.run] at h
    split at h
    · rename_i x l' hx
      simp only [Option.some.injEq, Prod.mk.injEq] at h
      obtain ⟨rfl, rfl⟩ := h
      obtain ⟨a, h1, h2⟩ := ih _ hx
      exact ⟨a, by simp [Rd.run, h1], h2⟩
    · cases h
  | box c k ih =>
    intro b l h
    simp only [Rd.map, Rd.run] at h
    split at h
    · rename_i x l' hx
      simp only [Option.some.injEq, Prod.mk.injEq] at h
      obtain ⟨rfl, rfl⟩ := h
      obtain ⟨a, h1, h2⟩ := ih _ hx
      exact ⟨a, by simp [Rd.run, h1], h2⟩
    · cases h
theorem lastB_none : ∀ {us : List (Nat × BoxSt D.τ)} {b : Nat} {S : St D.τ}, lastB us b = none → (S.bx us).box b = S.box b
  | [], _, _, _ => rfl
  | (c, s) :: us, b, S, h => by
    simp only [lastB] at h
    split at h
    · cases h
    · rename_i hn
      cases hb : Nat.beq b c <;> simp only [hb, cond_true, cond_false] at h
      · show ((S.upd (.box c s)).bx us).box b = _
        rw [lastB_none hn]
        exact upd_box_other S s (fun e => by subst e; simp at hb)
      · cases h
theorem lastB_some : ∀ {us : List (Nat × BoxSt D.τ)} {b : Nat} {t : BoxSt D.τ} {S : St D.τ}, lastB us b = some t → (S.bx us).box b = t
  | [], _, _, _, h => by cases h
  | (c, s) :: us, b, t, S, h => by
    simp only [lastB] at h
    show ((S.upd (.box c s)).bx us).box b = _
    split at h
    · rename_i u hu
      simp only [Option.some.injEq] at h
      subst h
      exact lastB_some hu
    · rename_i hn
      cases hb : Nat.beq b c <;> simp only [hb, cond_true, cond_false] at h
      · cases h
      · have := Nat.eq_of_beq_eq_true hb
        subst this
        simp only [Option.some.injEq] at h
        subst h
        rw [lastB_none hn, upd_box_same]
theorem bx_append (S : St D.τ) (us vs : List (Nat × BoxSt D.τ)) : S.bx (us ++ vs) = (S.bx us).bx vs := by
  induction us generalizing S with
  | nil => rfl
  | cons u us ih => exact ih (S.upd (.box u.1 u.2))
theorem frz_lands {M : Mem} {w0 : World} {S : St D.τ} {a : Act} {r : Res D.τ} {v : Value} {w : World} (fr : Bool) (h : Lands M w0 S a r v w) : Lands M w0 S a (frz fr r) v w := by
  unfold frz
  cases fr
  · exact h
  simp only [cond_true]
  split
  · rename_i b us ps
    split
    · rename_i e k l hl
      obtain ⟨σ, ν, hR, hA, hv⟩ := h
      have hbox : (S.bx us).box b = .dyn e (.ints k l) := lastB_some hl
      have hb := hR.boxes b
      rw [hbox] at hb
      obtain ⟨n, xs, hown, hp, h1⟩ := hb
      simp only [PartRel] at hp
      subst hp
      unfold Lands
      simp only [bx_append, bx_one]
      refine ⟨⟨σ.f, w, fun g => σ.zm g ∨ Fp D ((S.bx us).env D M w0 σ ν) b ((S.bx us).box b) g, σ.φ⟩, ν, hR.freeze b, hA.mono (freeze_le hR b) rfl rfl, ?_⟩
      obtain ⟨_, _, _, hv3⟩ := hv
      have hv4 : v = ν b := (List.cons.inj hv3).1
      refine ⟨by rw [hv4]; exact h1, v, rfl, ?_⟩
      rw [hv4]
      exact sl_own hown fun g hg hz => hz (.inr (by rw [hbox]; exact hg))
    · rename_i e sh ll hl
      cases hpos : Nat.ble 1 (rsz sh) <;> simp only [cond_true, cond_false]
      · exact h
      obtain ⟨σ, ν, hR, hA, hv⟩ := h
      have hbox : (S.bx us).box b = .dyn e (.lrs sh ll) := lastB_some hl
      have hb := hR.boxes b
      rw [hbox] at hb
      obtain ⟨n, xs, hown, hp, h1⟩ := hb
      unfold Lands
      simp only [bx_append, bx_one]
      refine ⟨⟨σ.f, w, fun g => σ.zm g ∨ Fp D ((S.bx us).env D M w0 σ ν) b ((S.bx us).box b) g, σ.φ⟩, ν, hR.freeze b, hA.mono (freeze_le hR b) rfl rfl, ?_⟩
      obtain ⟨_, _, _, hv3⟩ := hv
      have hv4 : v = ν b := (List.cons.inj hv3).1
      refine ⟨by rw [hv4]; exact h1, v, rfl, ?_⟩
      rw [hv4]
      exact rs_own (E := (S.bx us).env D M w0 σ ν) hown hp (Nat.le_of_ble_eq_true hpos) (freeze_le hR b).z rfl (fun g hg _ => .inr (by rw [hbox]; exact hg))
    · exact h
  · exact h
theorem frz_ps {τ : Type} (fr : Bool) (r : Res τ) : (frz fr r).ps = r.ps := by
  unfold frz
  cases fr
  · rfl
  simp only [cond_true]
  split
  · split
    · rfl
    · rename_i sh _ _; cases Nat.ble 1 (rsz sh) <;> rfl
    · rfl
  · rfl
inductive FrzR (S : St D.τ) : List (Part D.τ) → List (Part D.τ) → List (Nat × BoxSt D.τ) → Prop where
  | nil : FrzR S [] [] []
  | own {b : Nat} {e : TypeId} {p q : Part D.τ} {ps qs : List (Part D.τ)} {us : List (Nat × BoxSt D.τ)} (hb : S.box b = .dyn e p) (hq : frzOf p = some q) (h : FrzR S ps qs us) : FrzR S (.own b :: ps) (q :: qs) ((b, .dead) :: us)
  | other {p : Part D.τ} {ps qs : List (Part D.τ)} {us : List (Nat × BoxSt D.τ)} (h : FrzR S ps qs us) : FrzR S (p :: ps) (p :: qs) us
theorem FrzR.upd {S : St D.τ} {ps qs : List (Part D.τ)} {us : List (Nat × BoxSt D.τ)} (h : FrzR S ps qs us) {b : Nat} {s : BoxSt D.τ} (hb : b ∉ us.map (·.1)) : FrzR (S.upd (.box b s)) ps qs us := by
  induction h with
  | nil => exact .nil
  | own hc hq _ ih =>
    simp only [List.map_cons, List.mem_cons, not_or] at hb
    exact .own (by rw [upd_box_other S _ (Ne.symm hb.1)]; exact hc) hq (ih hb.2)
  | other _ ih => exact .other (ih hb)
theorem frzPs_run {α : Type} : ∀ {ps : List (Part D.τ)} {k : List (Part D.τ) → List (Nat × BoxSt D.τ) → Rd D.τ α} {S : St D.τ} {r : α} {l : List Ref}, (frzPs ps k).run S = some (r, l) → ∃ qs us l', FrzR S ps qs us ∧ (k qs us).run S = some (r, l')
  | [], k, S, r, l, h => ⟨[], [], l, .nil, h⟩
  | p :: ps, k, S, r, l, h => by
    simp only [frzPs] at h
    unfold frzP at h
    split at h
    · rename_i b
      obtain ⟨l1, h⟩ := box_run h
      split at h
      · rename_i e p1 hb
        split at h
        · rename_i q hq
          obtain ⟨qs, us, l2, h1, h2⟩ := frzPs_run h
          exact ⟨_, _, l2, .own hb hq h1, h2⟩
        · simp at h
      · simp at h
    · obtain ⟨qs, us, l2, h1, h2⟩ := frzPs_run h
      exact ⟨_, _, l2, .other h1, h2⟩
theorem FrzR.sound {M : Mem} {w0 w : World} {ν : Nat → Value} {S : St D.τ} {ps qs : List (Part D.τ)} {us : List (Nat × BoxSt D.τ)} (h : FrzR S ps qs us) : (us.map (·.1)).Nodup → ∀ {σ : Loc} {cs : List Value}, RR D M w0 σ ν S w → PartsRel D (S.env D M w0 σ ν) ps cs →
    ∃ σ', RR D M w0 σ' ν (S.bx us) w ∧ (S.env D M w0 σ ν).le ((S.bx us).env D M w0 σ' ν) ∧ PartsRel D ((S.bx us).env D M w0 σ' ν) qs cs := by
  revert S
  suffices H : ∀ {ps qs : List (Part D.τ)} {us : List (Nat × BoxSt D.τ)} (n : Nat) {S : St D.τ}, ps.length = n → FrzR S ps qs us → (us.map (·.1)).Nodup → ∀ {σ : Loc} {cs : List Value}, RR D M w0 σ ν S w → PartsRel D (S.env D M w0 σ ν) ps cs →
      ∃ σ', RR D M w0 σ' ν (S.bx us) w ∧ (S.env D M w0 σ ν).le ((S.bx us).env D M w0 σ' ν) ∧ PartsRel D ((S.bx us).env D M w0 σ' ν) qs cs by
    intro S h hn σ cs hR hp
    exact H ps.length rfl h hn hR hp
  intro ps qs us n
  induction n generalizing ps qs us with
  | zero =>
    intro S hl h hn σ cs hR hp
    cases h with
    | nil => exact ⟨σ, hR, ⟨fun _ h => h, fun _ _ => rfl, fun _ _ => rfl, rfl, rfl, ⟨rfl, rfl⟩, Loc.le_refl σ⟩, hp⟩
    | own _ _ _ => cases hl
    | other _ => cases hl
  | succ n ih =>
    intro S hl h hn σ cs hR hp
    cases h with
    | nil => cases hl
    | other h =>
      obtain ⟨c1, c2, rfl, h1, h2⟩ := hp
      obtain ⟨σ', q1, q2, q3⟩ := ih (by simpa using hl) h hn hR h2
      exact ⟨σ', q1, q2, c1, c2, rfl, h1.mono q2, q3⟩
    | @own b e p q ps qs us hb hq h =>
      obtain ⟨c1, c2, rfl, ⟨_, h1c, rfl⟩, h2⟩ := hp
      simp only [List.map_cons, List.nodup_cons] at hn
      have hbx := hR.boxes b
      rw [hb] at hbx
      obtain ⟨m, xs, hown, hpr, h1⟩ := hbx
      have hle := freeze_le hR b
      have hq1 : PartRel D ((S.upd (.box b .dead)).env D M w0 ⟨σ.f, w, fun g => σ.zm g ∨ Fp D (S.env D M w0 σ ν) b (S.box b) g, σ.φ⟩ ν) q [ν b] := by
        unfold frzOf at hq
        split at hq
        · rename_i k il
          cases hq
          simp only [PartRel] at hpr
          subst hpr
          exact ⟨ν b, rfl, sl_own hown fun g hg hz => hz (.inr (by rw [hb]; exact hg))⟩
        · rename_i sh ll
          cases hpos : Nat.ble 1 (rsz sh) <;> simp only [hpos, cond_true, cond_false] at hq
          · cases hq
          cases hq
          exact ⟨ν b, rfl, rs_own (E := S.env D M w0 σ ν) hown hpr (Nat.le_of_ble_eq_true hpos) hle.z rfl (fun g hg _ => .inr (by rw [hb]; exact hg))⟩
        · cases hq
      obtain ⟨σ', q1, q2, q3⟩ := ih (by simpa using hl) (h.upd (s := .dead) hn.1) hn.2 (hR.freeze b) (h2.mono hle)
      have q2' : ((S.upd (.box b .dead)).env D M w0 ⟨σ.f, w, fun g => σ.zm g ∨ Fp D (S.env D M w0 σ ν) b (S.box b) g, σ.φ⟩ ν).le (((S.upd (.box b .dead)).bx us).env D M w0 σ' ν) := q2
      refine ⟨σ', q1, ⟨fun c hc => q2'.al c (hle.al c hc), fun c hc => (q2'.σ c (hle.al c hc)).trans (hle.σ c hc), fun c hc => (q2'.ν c (hle.al c hc)).trans (hle.ν c hc), rfl, rfl, ⟨rfl, rfl⟩, fun g hg => ?_⟩, [ν b], c2, rfl, hq1.mono q2', q3⟩
      obtain ⟨z1, z2⟩ := hle.z g hg
      obtain ⟨z3, z4⟩ := q2'.z g z1
      exact ⟨z3, z4.trans z2⟩
theorem frzA_lands {M : Mem} {w0 : World} {S : St D.τ} {a : Act} {r r' : Res D.τ} {v : Value} {w : World} {fr : Bool} {l : List Ref} (hr : (frzA fr r).run S = some (r', l)) (h : Lands M w0 S a r v w) : Lands M w0 S a r' v w ∧ r'.ps = r.ps := by
  unfold frzA at hr
  cases fr
  · simp only [cond_false, run_ret] at hr
    obtain ⟨rfl, _⟩ := hr
    exact ⟨h, rfl⟩
  simp only [cond_true] at hr
  split at hr
  · rename_i p cs
    obtain ⟨qs, us, l1, hf, hr⟩ := frzPs_run hr
    split at hr
    · rename_i q
      cases hnd : nodupB (us.map (·.1)) <;> simp only [hnd, cond_true, cond_false, run_fail, run_ret] at hr
      obtain ⟨rfl, _⟩ := hr
      refine ⟨?_, rfl⟩
      obtain ⟨σ, ν, hR, hA, hv⟩ := h
      have hv' : A0Rel D (S.env D M w0 σ ν) (.one p) v := hv
      obtain ⟨h1, h2⟩ := hv'
      obtain ⟨σ', q1, q2, c1, c2, hc, q3, q4⟩ := hf.sound (nodupB_spec hnd) hR ⟨[v], [], rfl, h2, rfl⟩
      have hc2 : c2 = [] := q4
      subst hc2
      have hc1 : c1 = [v] := by simpa using hc.symm
      subst hc1
      exact ⟨σ', ν, q1, hA.mono q2 (bx_slot us S).1 (bx_slot us S).2, h1, q3⟩
    · simp at hr
  · rename_i ps cs
    obtain ⟨qs, us, l1, hf, hr⟩ := frzPs_run hr
    cases hnd : nodupB (us.map (·.1)) <;> simp only [hnd, cond_true, cond_false, run_fail, run_ret] at hr
    obtain ⟨rfl, _⟩ := hr
    refine ⟨?_, rfl⟩
    obtain ⟨σ, ν, hR, hA, hv⟩ := h
    obtain ⟨vs, rfl, hv'⟩ : A0Rel D (S.env D M w0 σ ν) (.agg ps) v := hv
    obtain ⟨σ', q1, q2, q3⟩ := hf.sound (nodupB_spec hnd) hR hv'
    exact ⟨σ', ν, q1, hA.mono q2 (bx_slot us S).1 (bx_slot us S).2, vs, rfl, q3⟩
  · simp only [run_ret] at hr
    obtain ⟨rfl, _⟩ := hr
    exact ⟨h, rfl⟩
theorem frzA_ps {S : St D.τ} {r r' : Res D.τ} {fr : Bool} {l : List Ref} (hr : (frzA fr r).run S = some (r', l)) : r'.ps = r.ps := by
  unfold frzA at hr
  cases fr
  · simp only [cond_false, run_ret] at hr
    rw [hr.1]
  simp only [cond_true] at hr
  split at hr
  · rename_i p cs
    obtain ⟨qs, us, l1, hf, hr⟩ := frzPs_run hr
    split at hr
    · cases hnd : nodupB (us.map (·.1)) <;> simp only [hnd, cond_true, cond_false, run_fail, run_ret] at hr
      obtain ⟨rfl, _⟩ := hr
      rfl
    · simp at hr
  · rename_i ps cs
    obtain ⟨qs, us, l1, hf, hr⟩ := frzPs_run hr
    cases hnd : nodupB (us.map (·.1)) <;> simp only [hnd, cond_true, cond_false, run_fail, run_ret] at hr
    obtain ⟨rfl, _⟩ := hr
    rfl
  · simp only [run_ret] at hr
    rw [hr.1]
theorem swapOwn_sound {E F : Env} {b : Nat} {q : Part D.τ} (hle : E.le F) (hq : PartRel D F q [E.ν b]) : ∀ {ps qs : List (Part D.τ)} {cs : List Value}, swapOwn b q ps = some qs → PartsRel D E ps cs → PartsRel D F qs cs
  | [], _, _, h, _ => by cases h
  | p :: ps, qs, cs, h, hp => by
    obtain ⟨c1, c2, rfl, h1, h2⟩ := hp
    unfold swapOwn at h
    split at h
    · cases h
    · rename_i c ps' heq
      cases heq
      cases hbc : Nat.beq b c <;> simp only [hbc, cond_true, cond_false] at h
      · split at h
        · rename_i qs' hq'
          cases h
          exact ⟨c1, c2, rfl, h1.mono hle, swapOwn_sound hle hq hq' h2⟩
        · cases h
      · cases h
        have := Nat.eq_of_beq_eq_true hbc
        subst this
        obtain ⟨_, _, rfl⟩ := h1
        exact ⟨_, c2, rfl, hq, h2.mono hle⟩
    · rename_i p' ps' _ heq
      cases heq
      split at h
      · rename_i qs' hq'
        cases h
        exact ⟨c1, c2, rfl, h1.mono hle, swapOwn_sound hle hq hq' h2⟩
      · cases h
theorem swapR_lands {M : Mem} {w0 : World} {S : St D.τ} {a : Act} {r r' : Res D.τ} {v : Value} {w : World} {x : Operand} {l : List Ref} (hr : (swapR x r).run S = some (r', l)) (h : Lands M w0 S a r v w) : Lands M w0 S a r' v w := by
  unfold swapR at hr
  split at hr
  · rename_i b cs
    obtain ⟨l1, hr⟩ := box_run hr
    split at hr
    · rename_i e p hbx
      split at hr
      · rename_i q hq
        obtain ⟨av, l2, hav, hr⟩ := rdA_run hr
        split at hr
        · rename_i c off
          cases hbc : Nat.beq b c <;> simp only [hbc, cond_true, cond_false, run_fail] at hr
          · obtain ⟨l3, hr⟩ := box_run hr
            split at hr
            · rename_i ty ps hcx
              split at hr
              · rename_i qs hqs
                simp only [run_ret] at hr
                obtain ⟨rfl, _⟩ := hr
                have hne : c ≠ b := fun e => by rw [e] at hbc; simp at hbc
                obtain ⟨σ, ν, hR, hA, hv⟩ := h
                have hR : RR D M w0 σ ν S w := hR
                have hA : RA D M w0 σ ν S a := hA
                have hv' : A0Rel D (S.env D M w0 σ ν) (.one (.own b)) v := hv
                obtain ⟨h1, hal, h1c, hvb⟩ := hv'
                have hvν : v = ν b := (List.cons.inj hvb).1
                have hb := hR.boxes b
                rw [hbx] at hb
                obtain ⟨m, xs, hown, hpr, _⟩ := hb
                have hle := freeze_le hR b
                have hR1 := hR.freeze b
                have hq1 : PartRel D ((S.upd (.box b .dead)).env D M w0 ⟨σ.f, w, fun g => σ.zm g ∨ Fp D (S.env D M w0 σ ν) b (S.box b) g, σ.φ⟩ ν) q [ν b] := by
                  unfold frzOf at hq
                  split at hq
                  · rename_i k il
                    cases hq
                    simp only [PartRel] at hpr
                    subst hpr
                    exact ⟨ν b, rfl, sl_own hown fun g hg hz => hz (.inr (by rw [hbx]; exact hg))⟩
                  · rename_i sh ll
                    cases hpos : Nat.ble 1 (rsz sh) <;> simp only [hpos, cond_true, cond_false] at hq
                    · cases hq
                    cases hq
                    exact ⟨ν b, rfl, rs_own (E := S.env D M w0 σ ν) hown hpr (Nat.le_of_ble_eq_true hpos) hle.z rfl (fun g hg _ => .inr (by rw [hbx]; exact hg))⟩
                  · cases hq
                have hcx1 : (S.upd (.box b .dead)).box c = .fixed ty ps := by rw [upd_box_other S _ hne]; exact hcx
                have hc := hR.boxes c
                rw [hcx] at hc
                obtain ⟨cells, hg, hps⟩ := hc
                have hal2 : (BoxSt.fixed ty qs : BoxSt D.τ).al := trivial
                have hle2 := env_upd_box (D := D) (M := M) (w0 := w0) (σ := ⟨σ.f, w, fun g => σ.zm g ∨ Fp D (S.env D M w0 σ ν) b (S.box b) g, σ.φ⟩) (ν := ν) (S := S.upd (.box b .dead)) (b := c) hal2
                have hR2 := hR1.updBox (b := c) (s := .fixed ty qs) hal2 (by rw [hcx1]; rfl) ⟨cells, hg, (swapOwn_sound hle hq1 hqs hps).mono hle2⟩ (World.grownBy.refl _ _) rfl (by rw [hcx1]; rfl)
                refine ⟨_, ν, hR2, (hA.mono hle rfl rfl).mono hle2 rfl rfl, h1, ?_⟩
                rw [hvν]
                exact hq1.mono hle2
              · simp at hr
            · simp at hr
        · simp at hr
      · simp at hr
    · simp at hr
  · simp at hr
theorem swapR_ps {S : St D.τ} {r r' : Res D.τ} {x : Operand} {l : List Ref} (hr : (swapR x r).run S = some (r', l)) : r'.ps = r.ps := by
  unfold swapR at hr
  split at hr
  · rename_i b cs
    obtain ⟨l1, hr⟩ := box_run hr
    split at hr
    · rename_i e p hbx
      split at hr
      · rename_i q hq
        obtain ⟨av, l2, hav, hr⟩ := rdA_run hr
        split at hr
        · rename_i c off
          cases hbc : Nat.beq b c <;> simp only [hbc, cond_true, cond_false, run_fail] at hr
          · obtain ⟨l3, hr⟩ := box_run hr
            split at hr
            · rename_i ty ps hcx
              split at hr
              · rename_i qs hqs
                simp only [run_ret] at hr
                obtain ⟨rfl, _⟩ := hr
                rfl
              · simp at hr
            · simp at hr
        · simp at hr
      · simp at hr
    · simp at hr
  · simp at hr
theorem frz1_lands {M : Mem} {w0 : World} {S : St D.τ} {a : Act} {r r' : Res D.τ} {v : Value} {w : World} {l : List Ref} (hr : (frz1 r).run S = some (r', l)) (h : Lands M w0 S a r v w) : Lands M w0 S a r' v w ∧ r'.ps = r.ps := by
  unfold frz1 at hr
  split at hr
  · rename_i b cs
    obtain ⟨l1, hr⟩ := box_run hr
    split at hr
    · rename_i e x c k n hbx
      cases hbc : Nat.beq b c <;> simp only [hbc, cond_true, cond_false, run_fail] at hr
      · obtain ⟨l3, hr⟩ := box_run hr
        split at hr
        · rename_i ec kd il hcx
          simp only [run_ret] at hr
          obtain ⟨rfl, _⟩ := hr
          refine ⟨?_, rfl⟩
          have hne : b ≠ c := fun e => by rw [e] at hbc; simp at hbc
          obtain ⟨σ, ν, hR, hA, hv⟩ := h
          have hR : RR D M w0 σ ν S w := hR
          have hA : RA D M w0 σ ν S a := hA
          have hv' : A0Rel D (S.env D M w0 σ ν) (.one (.own b)) v := hv
          obtain ⟨h1, hal, h1c, hvb⟩ := hv'
          have hvν : v = ν b := (List.cons.inj hvb).1
          have hc := hR.boxes c
          rw [hcx] at hc
          obtain ⟨mc, xc, hownc, hpc, _⟩ := hc
          simp only [PartRel] at hpc
          subst hpc
          have hb := hR.boxes b
          rw [hbx] at hb
          obtain ⟨m, xs, hown, hpr, _⟩ := hb
          have hpr' : C1sRel (S.env D M w0 σ ν) [.s x, .o c, .i k n] xs := hpr
          obtain ⟨v1, u1, rfl, q1, v2, u2, rfl, q2, v3, u3, rfl, q3, q4⟩ := hpr'
          have q1 : v1 = .string x := q1
          have q2 : v2 = ν c := q2.2.2
          have q3 : v3 = .int k n := q3
          have q4 : u3 = [] := q4
          subst q1 q2 q3 q4
          have hle := freeze_le hR c
          have hR1 := hR.freeze c
          have hbx1 : (S.upd (.box c .dead)).box b = .dyn e (.rec1 [.s x, .o c, .i k n]) := by rw [upd_box_other S _ hne]; exact hbx
          have hsl : SlRel (fun g => ¬ (σ.zm g ∨ Fp D (S.env D M w0 σ ν) c (S.box c) g)) w kd il (ν c) := sl_own hownc fun g hg hz => hz (.inr (by rw [hcx]; exact hg))
          have hlrs : PartRel D ((S.upd (.box c .dead)).env D M w0 ⟨σ.f, w, fun g => σ.zm g ∨ Fp D (S.env D M w0 σ ν) c (S.box c) g, σ.φ⟩ ν) (.lrs [.str, .words kd, .int k] [[.s x, .w il, .i n]]) [.string x, ν c, .int k n] := by
            refine ⟨rfl, fun i r hi => ?_⟩
            have hi0 : i = 0 := by
              have := (List.getElem?_eq_some_iff.1 hi).1
              simp at this
              exact this
            subst hi0
            simp only [List.getElem?_cons_zero, Option.some.injEq] at hi
            subst hi
            exact ⟨[.string x], [ν c, .int k n], rfl, rfl, [ν c], [.int k n], rfl, ⟨ν c, rfl, hsl⟩, [.int k n], [], rfl, rfl, rfl⟩
          have hle2 := freeze_le hR1 b
          have hR2 := hR1.freeze b
          have hown' : w.ownsL 0 e (rsz [.str, .words kd, .int k]) (ν b) m [.string x, ν c, .int k n] := hown
          refine ⟨_, ν, hR2, (hA.mono hle rfl rfl).mono hle2 rfl rfl, h1, v, rfl, ?_⟩
          rw [hvν]
          exact rs_own (E := (S.upd (.box c .dead)).env D M w0 ⟨σ.f, w, fun g => σ.zm g ∨ Fp D (S.env D M w0 σ ν) c (S.box c) g, σ.φ⟩ ν) hown' hlrs (show 1 ≤ 3 by decide) hle2.z rfl (fun g hg _ => .inr (by rw [hbx1]; exact hg))
        · simp at hr
    · simp at hr
  · simp at hr
theorem frzS_lands {M : Mem} {w0 : World} {S : St D.τ} {a : Act} {r r' : Res D.τ} {v : Value} {w : World} {sw fr : Bool} {o : Op} {l : List Ref} (hr : (frzS sw o fr r).run S = some (r', l)) (h : Lands M w0 S a r v w) : Lands M w0 S a r' v w := by
  unfold frzS at hr
  cases sw <;> simp only [cond_true, cond_false] at hr
  · exact (frzA_lands hr h).1
  · split at hr
    · exact swapR_lands hr h
    · exact (frz1_lands hr h).1
    · simp at hr
theorem frz1_ps {S : St D.τ} {r r' : Res D.τ} {l : List Ref} (hr : (frz1 r).run S = some (r', l)) : r'.ps = r.ps := by
  unfold frz1 at hr
  split at hr
  · rename_i b cs
    obtain ⟨l1, hr⟩ := box_run hr
    split at hr
    · rename_i e x c k n hbx
      cases hbc : Nat.beq b c <;> simp only [hbc, cond_true, cond_false, run_fail] at hr
      · obtain ⟨l3, hr⟩ := box_run hr
        split at hr
        · simp only [run_ret] at hr
          obtain ⟨rfl, _⟩ := hr
          rfl
        · simp at hr
    · simp at hr
  · simp at hr
theorem frzS_ps {S : St D.τ} {r r' : Res D.τ} {sw fr : Bool} {o : Op} {l : List Ref} (hr : (frzS sw o fr r).run S = some (r', l)) : r'.ps = r.ps := by
  unfold frzS at hr
  cases sw <;> simp only [cond_true, cond_false] at hr
  · exact frzA_ps hr
  · split at hr
    · exact swapR_ps hr
    · exact frz1_ps hr
    · simp at hr
theorem born2 {M : Mem} {w0 : World} {S S1 : St D.τ} {a : Act} {w : World} {us : List (Nat × BoxSt D.τ)} (hS1 : S.bx us = S1) {σ : Loc} {ν : Nat → Value} (hR : RR D M w0 σ ν S1 w) (hA : RA D M w0 σ ν S1 a) {b nid off : Nat} {ty : TypeId} {ps p1 p3 : List (Part D.τ)} {q : Part D.τ} {lt x : Bool} {v : Value} {cs : List Prop}
    (hbx : S1.box b = .fixed ty ps) (hsp : splitP D ps off 1 = some (p1, [q], p3)) (hn : (S1.box nid).al) (h1 : (ν nid).oneCell' = true) (hq : ∀ c, PartRel D (S1.env D M w0 σ ν) q c → c = [ν nid]) (hv : v.oneCell' = true ∧ [v] = [Value.bool x]) :
    Lands M w0 S a ⟨.v (.one (.bool lt x)), us ++ [(b, .fixed ty (p1 ++ (.own nid :: p3)))], cs⟩ v w := by
  have hc := hR.boxes b
  rw [hbx] at hc
  obtain ⟨cells, hg, hps⟩ := hc
  obtain ⟨c1, c2, c3, he, _, _, r1, r2, r3⟩ := splitP_sound hsp hps
  obtain ⟨d1, d2, rfl, e1, e2⟩ := r2
  have e2 : d2 = [] := e2
  subst e2
  have := hq _ e1
  subst this
  have hal2 : (BoxSt.fixed ty (p1 ++ (.own nid :: p3)) : BoxSt D.τ).al := trivial
  have hle2 := env_upd_box (D := D) (M := M) (w0 := w0) (σ := σ) (ν := ν) (S := S1) (b := b) hal2
  have hq2 : PartsRel D (S1.env D M w0 σ ν) (p1 ++ (.own nid :: p3)) cells.toList := by
    rw [he]
    exact r1.append ⟨[ν nid], c3, by rw [List.append_nil], ⟨hn, h1, rfl⟩, r3⟩
  have hR2 := hR.updBox (b := b) (s := .fixed ty (p1 ++ (.own nid :: p3))) hal2 (by rw [hbx]; rfl) ⟨cells, hg, hq2.mono hle2⟩ (World.grownBy.refl _ _) rfl (by rw [hbx]; rfl)
  unfold Lands
  simp only
  rw [bx_app, hS1, bx_one]
  exact ⟨_, ν, hR2, hA.mono hle2 rfl rfl, hv⟩
theorem bornR_lands {M : Mem} {w0 : World} {S : St D.τ} {a : Act} {r r' : Res D.τ} {v : Value} {w : World} {o : Option (Nat × Nat × TypeId)} {nid : Nat} {l : List Ref} (hr : (bornR P D o nid r).run S = some (r', l)) (h : Lands M w0 S a r v w) : Lands M w0 S a r' v w := by
  unfold bornR at hr
  split at hr
  · simp only [run_ret] at hr
    obtain ⟨rfl, _⟩ := hr
    exact h
  · rename_i s off e
    split at hr
    · rename_i lt x cs
      obtain ⟨l0, hr⟩ := slot_run hr
      obtain ⟨σ, ν, hR, hA, hv⟩ := h
      have hR : RR D M w0 σ ν S w := hR
      have hA : RA D M w0 σ ν S a := hA
      split at hr
      · rename_i b hsl
        obtain ⟨l1, hr⟩ := box_run hr
        split at hr
        · rename_i ty ps hbx
          have hnb : ∀ {c : Nat}, S.box c = .un → b ≠ c := fun hc e => by rw [e, hc] at hbx; cases hbx
          split at hr
          · rename_i p1 c p3 hsp
            cases hbc : Nat.beq b c <;> simp only [hbc, cond_true, cond_false, run_fail] at hr
            have hne : b ≠ c := fun e => by rw [e] at hbc; simp at hbc
            obtain ⟨l2, hr⟩ := box_run hr
            split at hr
            · rename_i e' p hcx
              obtain ⟨l3, hr⟩ := box_run hr
              split at hr
              · rename_i hun
                simp only [run_ret] at hr
                obtain ⟨rfl, _⟩ := hr
                have hco := hR.boxes c
                rw [hcx] at hco
                obtain ⟨m, xs, hown, hpr, h1c⟩ := hco
                have hbo := hR.boxes b
                rw [hbx] at hbo
                obtain ⟨cells, hg, hps⟩ := hbo
                have hg : w.heap[σ b]? = some (.cells cells ty (0, 0)) := hg
                have hL := lands_dynE (old := [c]) (row := none) (qs := []) (p := p) (e := e') hR hA hun (v := ν c) hown hpr h1c (World.grownBy.refl _ _) (by simp) (fun g hg => .inr ⟨c, by simp, by rw [hcx]; exact hg⟩)
                obtain ⟨σ1, ν1, hR1, hA1, hv1⟩ := hL
                generalize hS1 : S.bx ((Res.mk (AV.v (A0.one (Part.own nid))) (List.map (fun b => (b, BoxSt.dead)) [c] ++ [(nid, BoxSt.dyn e' p)]) ([] : List Prop)).us) = S1 at hR1 hA1 hv1
                obtain ⟨k1, k2, k3, k4⟩ := hv1
                have k4 : ν c = ν1 nid := (List.cons.inj k4).1
                have hbx1 : S1.box b = .fixed ty ps := by
                  rw [← hS1]
                  show ((S.upd (.box c .dead)).upd (.box nid (.dyn e' p))).box b = _
                  rw [upd_box_other _ _ (hnb hun), upd_box_other _ _ hne]
                  exact hbx
                have hbo1 := hR1.boxes b
                rw [hbx1] at hbo1
                obtain ⟨cells1, hg1, hps1⟩ := hbo1
                have hsl1 : S1.slot s = some (.v (.one (.ref b 0))) := by rw [← hS1, (bx_slot _ S).1]; exact hsl
                have hσ : σ1 b = σ b := by
                  have q1 := hA.slots _ _ hsl
                  have q2 := hA1.slots _ _ hsl1
                  obtain ⟨_, _, q1⟩ := q1
                  obtain ⟨_, _, q2⟩ := q2
                  rw [q1] at q2
                  simp only [List.cons.injEq, Value.pointer.injEq, Option.some.injEq, Addr.mk.injEq, and_true] at q2
                  exact q2.symm
                have hg1 : w.heap[σ1 b]? = some (.cells cells1 ty (0, 0)) := hg1
                rw [hσ, hg] at hg1
                simp only [Option.some.injEq, Obj.cells.injEq, and_true] at hg1
                subst hg1
                obtain ⟨c1, c2, c3, he, hl1, hl2, _, r2, _⟩ := splitP_sound hsp hps
                obtain ⟨d1, d2, d3, hd, hm1, hm2, _, s2, _⟩ := splitP_sound hsp hps1
                rw [he] at hd
                have ecd := (List.append_inj hd (by omega)).2
                have ecd := (List.append_inj ecd (by omega)).1
                obtain ⟨_, _, f1, ⟨_, _, f2⟩, f3⟩ := r2
                obtain ⟨_, _, g1, ⟨_, _, g2⟩, g3⟩ := s2
                rw [f1, g1, f2, g2, f3, g3] at ecd
                have hcc : ν c = ν1 c := by
                  rw [List.append_nil, List.append_nil] at ecd
                  exact (List.cons.inj ecd).1
                exact born2 hS1 hR1 hA1 hbx1 hsp k2 k3 (fun z hz => by rw [hz.2.2, ← k4, hcc]; rfl) hv
              · simp at hr
            · simp at hr
          · rename_i p1 p3 hsp
            split at hr
            · rename_i sh hsh
              obtain ⟨l3, hr⟩ := box_run hr
              split at hr
              · rename_i hun
                simp only [run_ret] at hr
                obtain ⟨rfl, _⟩ := hr
                have hL := lands_dynE (old := []) (row := none) (qs := []) (p := .lrs sh []) (e := e) (n := 0) (xs := []) hR hA hun (v := .slice none 0 0) (World.ownsL_nil _ _ _ _) (show PartRel D _ (.lrs sh []) [] from ⟨by simp, fun i r h => by simp at h⟩) rfl (World.grownBy.refl _ _) (by simp) (fun g hg => by simp [Value.ownBlock] at hg)
                obtain ⟨σ1, ν1, hR1, hA1, hv1⟩ := hL
                generalize hS1 : S.bx ((Res.mk (AV.v (A0.one (Part.own nid))) (List.map (fun b => (b, BoxSt.dead)) [] ++ [(nid, BoxSt.dyn e (.lrs sh []))]) ([] : List Prop)).us) = S1 at hR1 hA1 hv1
                obtain ⟨k1, k2, k3, k4⟩ := hv1
                have k4 : Value.slice none 0 0 = ν1 nid := (List.cons.inj k4).1
                have hbx1 : S1.box b = .fixed ty ps := by
                  rw [← hS1]
                  show (S.upd (.box nid (.dyn e (.lrs sh [])))).box b = _
                  rw [upd_box_other _ _ (hnb hun)]
                  exact hbx
                exact born2 hS1 hR1 hA1 hbx1 hsp k2 k3 (fun z hz => by rw [← k4]; exact hz) hv
              · simp at hr
            · simp at hr
          · simp at hr
        · simp at hr
      · simp at hr
    · simp at hr
theorem bornR_ps {S : St D.τ} {r r' : Res D.τ} {o : Option (Nat × Nat × TypeId)} {nid : Nat} {l : List Ref} (hr : (bornR P D o nid r).run S = some (r', l)) : r'.ps = r.ps := by
  unfold bornR at hr
  split at hr
  · simp only [run_ret] at hr
    obtain ⟨rfl, _⟩ := hr
    rfl
  · split at hr
    · obtain ⟨l0, hr⟩ := slot_run hr
      split at hr
      · rename_i b hsl
        obtain ⟨l1, hr⟩ := box_run hr
        split at hr
        · rename_i ty ps hbx
          split at hr
          · rename_i p1 c p3 hsp
            cases hbc : Nat.beq b c <;> simp only [hbc, cond_true, cond_false, run_fail] at hr
            obtain ⟨l2, hr⟩ := box_run hr
            split at hr
            · obtain ⟨l3, hr⟩ := box_run hr
              split at hr
              · simp only [run_ret] at hr
                obtain ⟨rfl, _⟩ := hr
                rfl
              · simp at hr
            · simp at hr
          · split at hr
            · obtain ⟨l3, hr⟩ := box_run hr
              split at hr
              · simp only [run_ret] at hr
                obtain ⟨rfl, _⟩ := hr
                rfl
              · simp at hr
            · simp at hr
          · simp at hr
        · simp at hr
      · simp at hr
    · simp at hr
theorem aop_sound {Γ : Gam D} (hΓ : GamOK P D Γ) (nid : Nat) (o : Oper) : Sound P D (aop P D Γ nid o) (fun ρ => execOp ρ o) := by
  intro S r l h hps M w0 a w hR
  unfold aop at h
  obtain ⟨r2, l3, l4, h2, h⟩ := bind_run h
  obtain ⟨r1, l1, l2, h1, h2⟩ := bind_run h2
  obtain ⟨r0, h0, rfl⟩ := map_run h1
  have hp2 : r.ps = r2.ps := bornR_ps h
  have hp1 : r2.ps = (frz (frozenAt D Γ o.dst) r0).ps := frzS_ps h2
  exact (aop0_sound hΓ nid o S r0 l1 h0 (by rw [← frz_ps (frozenAt D Γ o.dst) r0, ← hp1, ← hp2]; exact hps) M w0 a w hR).mono fun v w' hl => bornR_lands h (frzS_lands h2 (frz_lands _ hl))
end
end Go.Abs
namespace Go.Abs
open Go.RowKit
section
variable {P : Program} {D : Dom}
theorem app_append {τ : Type} : ∀ (us vs : List (Upd τ)) (S : St τ), S.app (us ++ vs) = (S.app us).app vs
  | [], _, _ => rfl
  | _ :: us, vs, _ => app_append us vs _
theorem put_slot {M : Mem} {w0 : World} {σ : Loc} {ν : Nat → Value} {S : St D.τ} {a : Act} {w : World} (hR : RR D M w0 σ ν S w) (hA : RA D M w0 σ ν S a) {o : Oper} {x : AV D.τ} {v : Value}
    (hv : AVRel D (S.env D M w0 σ ν) x v) (hd : dstOk S.nt o = true) : R D M w0 (S.app (match o.dst with | some d => [Upd.slot d (some x)] | none => [])) (a.put o.dst v) w := by
  unfold dstOk at hd
  cases ho : o.dst with
  | none => exact ⟨σ, ν, hR, hA⟩
  | some d =>
    rw [ho] at hd
    have hlt : d < S.nt := Nat.lt_of_lt_of_eq (Nat.le_of_ble_eq_true hd) rfl
    refine ⟨σ, ν, ⟨hR.boxes, hR.disj, hR.lo, hR.kept, hR.zk, hR.zd, hR.pins, hR.glob, hR.z0, hR.zn⟩, ?_, hA.defers, fun t av h => ?_⟩
    · show (a.tmps.setIfInBounds d v).size = S.nt
      rw [Array.size_setIfInBounds]; exact hA.size
    · show AVRel D (S.env D M w0 σ ν) av ((a.tmps.setIfInBounds d v).getD t undef)
      have h' : (bif Nat.beq t d then some x else S.slot t) = some av := h
      by_cases ht : t = d
      · subst ht
        have hb : Nat.beq t t = true := by simp
        rw [hb] at h'
        simp only [cond_true, Option.some.injEq] at h'
        subst h'
        have : (a.tmps.setIfInBounds t v).getD t undef = v := by
          have hs : t < a.tmps.size := by rw [hA.size]; exact hlt
          simp [Array.getD, hs]
        rw [this]; exact hv
      · rw [beq_ne ht] at h'
        simp only [cond_false] at h'
        have : (a.tmps.setIfInBounds d v).getD t undef = a.tmps.getD t undef := by
          simp only [Array.getD_eq_getD_getElem?]
          rw [Array.getElem?_setIfInBounds_ne (Ne.symm ht)]
        rw [this]; exact hA.slots t av h'
theorem settle_lands {M : Mem} {w0 : World} {S : St D.τ} {a : Act} {r : Res D.τ} {v : Value} {w : World} (d : Dec D.τ) (h : Lands M w0 S a r v w) (hp : ∀ p ∈ (settle d r).ps, p) : Lands M w0 S a (settle d r) v w := by
  unfold settle at *
  split at hp
  · rename_i v' b us ps
    have hb : b = v' := hp _ (by simp)
    subst hb
    exact h
  · exact h
theorem settle_ps {τ : Type} (d : Dec τ) (r : Res τ) (h : ∀ p ∈ (settle d r).ps, p) : ∀ p ∈ r.ps, p := by
  unfold settle at h
  split at h
  · intro p hp; exact h p (List.mem_cons_of_mem _ hp)
  · exact h
theorem lands_put {M : Mem} {w0 : World} {S : St D.τ} {a : Act} {r : Res D.τ} {v : Value} {w : World} {o : Oper} (h : Lands M w0 S a r v w) (hd : dstOk S.nt o = true) : R D M w0 (S.app (r.upds o)) (a.put o.dst v) w := by
  obtain ⟨σ, ν, hR, hA, hv⟩ := h
  unfold Res.upds
  rw [app_append]
  have hnt : (S.bx r.us).nt = S.nt := (bx_slot r.us S).2
  exact put_slot hR hA hv (by rw [hnt]; exact hd)
theorem yielded_slot {ops : Array Oper} {a : Act} {j t : Nat} (hj : (ops[j]?).bind (·.dst) = some t) {b : Bool} (h : a.tmps.getD t undef = .bool b) : yielded ops a.tmps j = some b := by
  unfold yielded
  rw [hj]
  simp only [Option.bind_some]
  rw [Array.getD_eq_getD_getElem?] at h
  cases ht : a.tmps[t]? with
  | none => rw [ht] at h; simp [undef] at h
  | some v => rw [ht] at h; simp at h; subst h; rfl
theorem yielded_undef {ops : Array Oper} {a : Act} {j t : Nat} (hj : (ops[j]?).bind (·.dst) = some t) (h : a.tmps.getD t undef = undef) : yielded ops a.tmps j = none := by
  unfold yielded
  rw [hj]
  simp only [Option.bind_some]
  rw [Array.getD_eq_getD_getElem?] at h
  cases ht : a.tmps[t]? with
  | none => rfl
  | some v => rw [ht] at h; simp at h; subst h; rfl
theorem gop_step {Γ : Gam D} (hΓ : GamOK P D Γ) {ops : Array Oper} {nid : Nat} {o : Oper} {d : Dec D.τ} {S : St D.τ} {r : Res D.τ} {l : List Ref} (h : (gop P D Γ ops nid o).run S = some (r, l)) (hps : ∀ p ∈ (settle d r).ps, p)
    (hd : dstOk S.nt o = true) {M : Mem} {w0 : World} {a : Act} {w : World} (hR : R D M w0 S a w) {K : Act → World → Prop} {Q : Exit → Act → World → Prop}
    (hK : ∀ a' w', R D M w0 (S.app ((settle d r).upds o)) a' w' → K a' w') :
    if Region.wanted o (yielded ops a.tmps) then o.wp P a w K Q ∨ (o.asks P a w ∧ LetsOut Q) else K (a.put o.dst undef) w := by
  have run2 : ∀ l', (aop P D Γ nid o).run S = some (r, l') → o.wp P a w K Q := by
    intro l' h'
    have hs := aop_sound (P := P) hΓ nid o S r l' h' (settle_ps d r hps) M w0 a w hR
    exact wp_of_upTo hs fun v w' hl => hK _ _ (lands_put (settle_lands d hl hps) hd)
  have skip : r = skipped → K (a.put o.dst undef) w := by
    rintro rfl
    obtain ⟨σ, ν, hR1, hA1⟩ := hR
    have hl : Lands M w0 S a (skipped : Res D.τ) undef w := ⟨σ, ν, hR1, hA1, undef_rel⟩
    exact hK _ _ (lands_put (settle_lands d hl hps) hd)
  unfold gop at h
  split at h
  · rename_i hg
    rw [if_pos (by unfold Region.wanted; rw [hg])]
    exact .inl (run2 l h)
  · rename_i j want hg
    split at h
    · rename_i hj
      simp only [run_ret] at h
      have hn : Region.wanted o (yielded ops a.tmps) = false := by
        unfold Region.wanted yielded
        rw [hg]
        simp [hj]
      rw [if_neg (by rw [hn]; simp)]
      exact skip h.1.symm
    · rename_i t hj
      obtain ⟨l1, h⟩ := slot_run h
      obtain ⟨σ, ν, hR1, hA1⟩ := id hR
      split at h
      · rename_i v hsl
        have hb := bool_rel (hA1.slots t _ hsl)
        have hy := yielded_slot hj hb
        have hw : Region.wanted o (yielded ops a.tmps) = (v == want) := by
          unfold Region.wanted
          rw [hg]
          simp only [hy]
          cases v <;> cases want <;> rfl
        cases hvw : (v == want) <;> rw [hvw] at hw <;> simp only [hvw, cond_true, cond_false] at h
        · rw [if_neg (by rw [hw]; simp)]
          simp only [run_ret] at h
          exact skip h.1.symm
        · rw [if_pos hw]
          exact .inl (run2 l1 h)
      · rename_i hsl
        have hb : a.tmps.getD t undef = undef := by
          obtain ⟨vs, e, hv⟩ := hA1.slots t _ hsl
          cases hv
          exact e
        have hy := yielded_undef hj hb
        have hw : Region.wanted o (yielded ops a.tmps) = false := by
          unfold Region.wanted
          rw [hg]
          simp [hy]
        rw [if_neg (by rw [hw]; simp)]
        simp only [run_ret] at h
        exact skip h.1.symm
      · simp at h
theorem rows_cons {Γ : Gam D} {ops : Array Oper} {nid : Nat} {o : Oper} {os : List Oper} {S : St D.τ} {ds ds' : List (Dec D.τ)} {rs : List (Row D.τ)} (h : rows P D Γ ops nid (o :: os) S ds = some (rs, ds')) :
    ∃ r l d row rs' ds1, dstOk S.nt o = true ∧ (gop P D Γ ops nid o).run S = some (r, l) ∧ rs = row :: rs' ∧ row.reads = l ∧ row.us = (settle d r).upds o ∧ row.ps = (settle d r).ps ∧
      rows P D Γ ops (nid + 16) os (S.app row.us) ds1 = some (rs', ds') := by
  simp only [rows] at h
  cases hd : dstOk S.nt o <;> simp only [hd, cond_true, cond_false] at h
  · cases h
  · split at h
    · rename_i r l hr
      split at h
      · cases h
      · rename_i d ds1 _
        split at h
        · rename_i rs' ds2 hrs
          simp only [Option.some.injEq, Prod.mk.injEq] at h
          obtain ⟨rfl, rfl⟩ := h
          exact ⟨r, l, d, _, rs', ds1, rfl, hr, rfl, rfl, rfl, rfl, hrs⟩
        · cases h
      · split at h
        · rename_i rs' ds2 hrs
          simp only [Option.some.injEq, Prod.mk.injEq] at h
          obtain ⟨rfl, rfl⟩ := h
          have e : settle .keep r = r := by unfold settle; rfl
          exact ⟨r, l, .keep, _, rs', _, rfl, hr, rfl, rfl, by rw [e], by rw [e], hrs⟩
        · cases h
    · cases h
def AllPs {τ : Type} (rs : List (Row τ)) : Prop := ∀ r ∈ rs, ∀ p ∈ r.ps, p
theorem wpOps_seq {Γ : Gam D} (hΓ : GamOK P D Γ) {ops : Array Oper} {M : Mem} {w0 : World} {Q : Exit → Act → World → Prop} : ∀ (os : List Oper) (k nid : Nat) (S : St D.τ) (ds ds' : List (Dec D.τ)) (rs : List (Row D.τ)) (a : Act) (w : World),
    (∀ j, os[j]? = ops[k + j]?) → rows P D Γ ops nid os S ds = some (rs, ds') → AllPs rs → R D M w0 S a w → (∀ a' w', R D M w0 (S.appRows rs) a' w' → Q .normal a' w') →
    wpOps P ops Q (List.range' k os.length) a w
  | [], k, nid, S, ds, ds', rs, a, w, _, h, _, hR, hQ => by
    simp only [rows, Option.some.injEq, Prod.mk.injEq] at h
    obtain ⟨rfl, rfl⟩ := h
    exact hQ a w hR
  | o :: os, k, nid, S, ds, ds', rs, a, w, ho, h, hps, hR, hQ => by
    obtain ⟨r, l, d, row, rs', ds1, hd, hr, rfl, h1, h2, h3, hrs⟩ := rows_cons h
    have h0 : ops[k]? = some o := by simpa using (ho 0).symm
    simp only [List.length_cons, List.range'_succ]
    rw [wpOps_cons]
    unfold wpOp
    rw [h0]
    refine gop_step hΓ hr (by rw [← h3]; exact hps row (by simp)) hd hR (fun a' w' hR' => ?_)
    rw [← h2] at hR'
    exact wpOps_seq hΓ os (k + 1) (nid + 16) _ ds1 ds' rs' a' w' (fun j => by have := ho (j + 1); simpa [Nat.add_assoc, Nat.add_comm 1 j] using this) hrs
      (fun r hr => hps r (List.mem_cons_of_mem _ hr)) hR' hQ
def ag {τ : Type} (S S' : St τ) : Ref → Prop
  | .slot t => S.slot t = S'.slot t
  | .box b => S.box b = S'.box b
theorem ag_refl {τ : Type} (S : St τ) (x : Ref) : ag S S x := by cases x <;> rfl
theorem ag_symm {τ : Type} {S S' : St τ} {x : Ref} (h : ag S S' x) : ag S' S x := by cases x <;> exact Eq.symm h
theorem ag_trans {τ : Type} {S S' S'' : St τ} {x : Ref} (h : ag S S' x) (k : ag S' S'' x) : ag S S'' x := by cases x <;> exact Eq.trans h k
theorem St.ext' {τ : Type} {S S' : St τ} (hn : S.nt = S'.nt) (hp : S.np = S'.np) (h : ∀ x, ag S S' x) : S = S' := by
  obtain ⟨a, b, c, d⟩ := S
  obtain ⟨a', b', c', d'⟩ := S'
  have h1 : a = a' := funext fun t => h (.slot t)
  have h2 : b = b' := funext fun t => h (.box t)
  simp only at hn hp
  subst h1 h2 hn hp
  rfl
theorem run_local {τ α : Type} {S S' : St τ} : ∀ {m : Rd τ α} {r : α} {l : List Ref}, m.run S = some (r, l) → (∀ x ∈ l, ag S S' x) → m.run S' = some (r, l) := by
  intro m
  induction m with
  | ret a => intro r l h _; exact h
  | fail => intro r l h _; exact h
  | slot t k ih =>
    intro r l h hl
    simp only [Rd.run] at h ⊢
    cases hk : (k (S.slot t)).run S with
    | none => rw [hk] at h; cases h
    | some x =>
      obtain ⟨a', l'⟩ := x
      rw [hk] at h
      simp only [Option.some.injEq, Prod.mk.injEq] at h
      obtain ⟨rfl, rfl⟩ := h
      have e : S.slot t = S'.slot t := hl (.slot t) (by simp)
      rw [← e, ih _ hk (fun x hx => hl x (List.mem_cons_of_mem _ hx))]
  | box t k ih =>
    intro r l h hl
    simp only [Rd.run] at h ⊢
    cases hk : (k (S.box t)).run S with
    | none => rw [hk] at h; cases h
    | some x =>
      obtain ⟨a', l'⟩ := x
      rw [hk] at h
      simp only [Option.some.injEq, Prod.mk.injEq] at h
      obtain ⟨rfl, rfl⟩ := h
      have e : S.box t = S'.box t := hl (.box t) (by simp)
      rw [← e, ih _ hk (fun x hx => hl x (List.mem_cons_of_mem _ hx))]
theorem Ref.beq_spec {a b : Ref} : Ref.beq a b = true ↔ a = b := by
  cases a <;> cases b <;> simp [Ref.beq]
theorem upd_ag {τ : Type} {S S' : St τ} (u : Upd τ) {x : Ref} (h : ag S S' x) : ag (S.upd u) (S'.upd u) x := by
  cases u <;> cases x <;> simp only [ag, St.upd] at h ⊢ <;> first | exact h | rw [h]
theorem upd_other {τ : Type} (S : St τ) {u : Upd τ} {x : Ref} (h : u.ref ≠ x) : ag (S.upd u) S x := by
  cases u <;> cases x <;> simp only [ag, St.upd, Upd.ref, ne_eq, Ref.slot.injEq, Ref.box.injEq] at h ⊢
  · rw [beq_ne (fun e => h e.symm)]; rfl
  · rw [beq_ne (fun e => h e.symm)]; rfl
theorem upd_same {τ : Type} (S S' : St τ) {u : Upd τ} {x : Ref} (h : u.ref = x) : ag (S.upd u) (S'.upd u) x := by
  subst h
  cases u <;> simp [ag, St.upd, Upd.ref]
theorem app_ag {τ : Type} : ∀ (us : List (Upd τ)) {S S' : St τ} {x : Ref}, ag S S' x → ag (S.app us) (S'.app us) x
  | [], _, _, _, h => h
  | u :: us, _, _, _, h => app_ag us (upd_ag u h)
theorem app_other {τ : Type} : ∀ (us : List (Upd τ)) (S : St τ) {x : Ref}, x ∉ us.map Upd.ref → ag (S.app us) S x
  | [], S, x, _ => ag_refl S x
  | u :: us, S, x, h => by
    simp only [List.map_cons, List.mem_cons, not_or] at h
    exact ag_trans (app_other us (S.upd u) h.2) (upd_other S (Ne.symm h.1))
theorem app_same {τ : Type} : ∀ (us : List (Upd τ)) (S S' : St τ) {x : Ref}, x ∈ us.map Upd.ref → ag (S.app us) (S'.app us) x
  | u :: us, S, S', x, h => by
    by_cases h2 : x ∈ us.map Upd.ref
    · exact app_same us _ _ h2
    · simp only [List.map_cons, List.mem_cons] at h
      rcases h with h | h
      · exact app_ag us (upd_same S S' h.symm)
      · exact absurd h h2
theorem app_nt {τ : Type} : ∀ (us : List (Upd τ)) (S : St τ), (S.app us).nt = S.nt
  | [], _ => rfl
  | u :: us, S => (app_nt us (S.upd u)).trans (by cases u <;> rfl)
def appE {τ : Type} (E : Nat → Bool) : Nat → List (Row τ) → St τ → St τ
  | _, [], S => S
  | i, r :: rs, S => appE E (i + 1) rs (bif E i then S.app r.us else S)
theorem app_np {τ : Type} : ∀ (us : List (Upd τ)) (S : St τ), (S.app us).np = S.np
  | [], _ => rfl
  | u :: us, S => (app_np us (S.upd u)).trans (by cases u <;> rfl)
theorem appE_nt {τ : Type} (E : Nat → Bool) : ∀ (i : Nat) (rs : List (Row τ)) (S : St τ), (appE E i rs S).nt = S.nt
  | _, [], _ => rfl
  | i, r :: rs, S => by
    show (appE E (i + 1) rs _).nt = _
    rw [appE_nt E (i + 1) rs]
    cases E i
    · rfl
    · exact app_nt _ _
theorem appE_np {τ : Type} (E : Nat → Bool) : ∀ (i : Nat) (rs : List (Row τ)) (S : St τ), (appE E i rs S).np = S.np
  | _, [], _ => rfl
  | i, r :: rs, S => by
    show (appE E (i + 1) rs _).np = _
    rw [appE_np E (i + 1) rs]
    cases E i
    · rfl
    · exact app_np _ _
theorem appE_ag {τ : Type} {E E' : Nat → Bool} {x : Ref} : ∀ (rs : List (Row τ)) (i : Nat) {S S' : St τ}, (∀ k r, rs[k]? = some r → x ∈ r.writes → E (i + k) = E' (i + k)) → ag S S' x → ag (appE E i rs S) (appE E' i rs S') x
  | [], _, _, _, _, h => h
  | r :: rs, i, S, S', he, h => by
    show ag (appE E (i + 1) rs _) (appE E' (i + 1) rs _) x
    refine appE_ag rs (i + 1) (fun k r' hk hx => by have := he (k + 1) r' (by simpa using hk) hx; rwa [show i + (k + 1) = i + 1 + k from by omega] at this) ?_
    by_cases hx : x ∈ r.writes
    · have := he 0 r rfl hx
      rw [Nat.add_zero] at this
      rw [this]
      cases E' i
      · exact h
      · exact app_ag _ h
    · have h1 : ag (bif E i then S.app r.us else S) S x := by
        cases E i
        · exact ag_refl _ _
        · exact app_other _ _ hx
      have h2 : ag (bif E' i then S'.app r.us else S') S' x := by
        cases E' i
        · exact ag_refl _ _
        · exact app_other _ _ hx
      exact ag_trans h1 (ag_trans h (ag_symm h2))
theorem appE_last {τ : Type} {E : Nat → Bool} {x : Ref} : ∀ (rs : List (Row τ)) (i m : Nat) (S S' : St τ) {r : Row τ}, rs[m]? = some r → x ∈ r.writes → E (i + m) = true →
    (∀ k r', rs[k]? = some r' → m < k → E (i + k) = true → x ∉ r'.writes) → ag (appE E i rs S) (S'.app r.us) x
  | r0 :: rs, i, 0, S, S', r, hr, hx, he, hl => by
    simp only [List.getElem?_cons_zero, Option.some.injEq] at hr
    subst hr
    rw [Nat.add_zero] at he
    show ag (appE E (i + 1) rs (bif E i then S.app r0.us else S)) _ x
    rw [he]
    have h1 : ag (appE E (i + 1) rs (S.app r0.us)) (appE (fun _ => false) (i + 1) rs (S.app r0.us)) x := by
      refine appE_ag rs (i + 1) (fun k r' hk hx' => ?_) (ag_refl _ _)
      cases hE : E (i + 1 + k) with
      | false => rfl
      | true => exact absurd hx' (hl (k + 1) r' (by simpa using hk) (by omega) (by rw [show i + (k + 1) = i + 1 + k from by omega]; exact hE))
    have h2 : ∀ (rs : List (Row τ)) (i : Nat) (T : St τ), appE (fun _ => false) i rs T = T := by
      intro rs
      induction rs with
      | nil => intro i T; rfl
      | cons r rs ih => intro i T; exact ih (i + 1) T
    rw [h2] at h1
    exact ag_trans h1 (app_same _ _ _ hx)
  | r0 :: rs, i, m + 1, S, S', r, hr, hx, he, hl => by
    show ag (appE E (i + 1) rs _) _ x
    refine appE_last rs (i + 1) m _ S' (by simpa using hr) hx (by rw [show i + 1 + m = i + (m + 1) from by omega]; exact he) (fun k r' hk hlt hE => ?_)
    exact hl (k + 1) r' (by simpa using hk) (by omega) (by rw [show i + (k + 1) = i + 1 + k from by omega]; exact hE)
theorem appE_all {τ : Type} {E : Nat → Bool} : ∀ (rs : List (Row τ)) (i : Nat) (S : St τ), (∀ k, k < rs.length → E (i + k) = true) → appE E i rs S = S.appRows rs
  | [], _, _, _ => rfl
  | r :: rs, i, S, h => by
    show appE E (i + 1) rs _ = _
    have h0 := h 0 (by simp)
    rw [Nat.add_zero] at h0
    rw [h0]
    exact appE_all rs (i + 1) _ (fun k hk => by rw [show i + 1 + k = i + (k + 1) from by omega]; exact h (k + 1) (by simp; omega))
theorem rows_get {Γ : Gam D} {ops : Array Oper} : ∀ (os : List Oper) (nid : Nat) (S : St D.τ) (ds ds' : List (Dec D.τ)) (rs : List (Row D.τ)), rows P D Γ ops nid os S ds = some (rs, ds') →
    rs.length = os.length ∧ ∀ i o, os[i]? = some o → ∃ row r l d, rs[i]? = some row ∧ dstOk S.nt o = true ∧ (gop P D Γ ops (nid + 16 * i) o).run (S.appRows (rs.take i)) = some (r, l) ∧
      row.reads = l ∧ row.us = (settle d r).upds o ∧ row.ps = (settle d r).ps
  | [], nid, S, ds, ds', rs, h => by
    simp only [rows, Option.some.injEq, Prod.mk.injEq] at h
    obtain ⟨rfl, _⟩ := h
    exact ⟨rfl, fun i o h => by simp at h⟩
  | o :: os, nid, S, ds, ds', rs, h => by
    obtain ⟨r, l, d, row, rs', ds1, hd, hr, rfl, h1, h2, h3, hrs⟩ := rows_cons h
    obtain ⟨hl, hg⟩ := rows_get os (nid + 16) _ ds1 ds' rs' hrs
    refine ⟨by simp [hl], fun i o' ho => ?_⟩
    cases i with
    | zero =>
      simp only [List.getElem?_cons_zero, Option.some.injEq] at ho
      subst ho
      exact ⟨row, r, l, d, rfl, hd, hr, h1, h2, h3⟩
    | succ i =>
      obtain ⟨row', r', l', d', q1, q2, q3, q4⟩ := hg i o' (by simpa using ho)
      rw [app_nt] at q2
      refine ⟨row', r', l', d', by simpa using q1, q2, ?_, q4⟩
      rw [show nid + 16 * (i + 1) = nid + 16 + 16 * i from by omega]
      exact q3
theorem appE_take {τ : Type} : ∀ (rs : List (Row τ)) (j i : Nat) (S : St τ), appE (fun k => decide (k < j + i)) j rs S = S.appRows (rs.take i)
  | [], _, _, _ => by simp [appE, St.appRows]
  | r :: rs, j, 0, S => by
    have h2 : ∀ (rs : List (Row τ)) (m : Nat) (T : St τ), j ≤ m → appE (fun k => decide (k < j + 0)) m rs T = T := by
      intro rs
      induction rs with
      | nil => intro m T _; rfl
      | cons r rs ih =>
        intro m T hm
        show appE _ (m + 1) rs (bif decide (m < j + 0) then T.app r.us else T) = T
        rw [show decide (m < j + 0) = false from by simpa using hm]
        exact ih (m + 1) T (by omega)
    rw [h2 _ _ _ (Nat.le_refl _)]
    rfl
  | r :: rs, j, i + 1, S => by
    show appE _ (j + 1) rs (bif decide (j < j + (i + 1)) then S.app r.us else S) = _
    rw [show decide (j < j + (i + 1)) = true from by simp]
    have := appE_take rs (j + 1) i (S.app r.us)
    rw [show j + 1 + i = j + (i + 1) from by omega] at this
    exact this
theorem ahead_bit {ms : List Nat} {o : Oper} {i : Nat} (h : (ahead ms o).testBit i = true) : ∃ e ∈ o.after.toList, Region.binds .any e = true ∧ (e.on = i ∨ (ms.getD e.on 0).testBit i = true) := by
  unfold ahead at h
  have key : ∀ (es : List Edge) (s : Nat), (es.foldl (fun s e => bif Region.binds .any e then s ||| 2 ^ e.on ||| ms.getD e.on 0 else s) s).testBit i = true →
      s.testBit i = true ∨ ∃ e ∈ es, Region.binds .any e = true ∧ (e.on = i ∨ (ms.getD e.on 0).testBit i = true) := by
    intro es
    induction es with
    | nil => intro s h; exact .inl h
    | cons e es ih =>
      intro s h
      rw [List.foldl_cons] at h
      rcases ih _ h with h1 | ⟨e', he', hb⟩
      · cases hbd : Region.binds .any e with
        | false => rw [hbd] at h1; exact .inl h1
        | true =>
          rw [hbd] at h1
          simp only [cond_true, Nat.testBit_or, Bool.or_eq_true, Nat.testBit_two_pow, decide_eq_true_eq] at h1
          rcases h1 with (h1 | h1) | h1
          · exact .inl h1
          · exact .inr ⟨e, by simp, hbd, .inl h1⟩
          · exact .inr ⟨e, by simp, hbd, .inr h1⟩
      · exact .inr ⟨e', List.mem_cons_of_mem _ he', hb⟩
  rcases key o.after.toList 0 h with h | h
  · simp at h
  · exact h
theorem aheads_get : ∀ (os : List Oper) (ms : List Nat), (∀ j, j < ms.length → (aheads os ms)[j]? = ms[j]?) ∧ (aheads os ms).length = ms.length + os.length
  | [], ms => ⟨fun _ _ => rfl, rfl⟩
  | o :: os, ms => by
    obtain ⟨h1, h2⟩ := aheads_get os (ms ++ [ahead ms o])
    refine ⟨fun j hj => ?_, ?_⟩
    · show (aheads os (ms ++ [ahead ms o]))[j]? = _
      rw [h1 j (by simp; omega), List.getElem?_append_left hj]
    · show (aheads os (ms ++ [ahead ms o])).length = _
      rw [h2]; simp; omega
theorem aheads_at : ∀ (os : List Oper) (ms : List Nat) (j : Nat) (o : Oper), os[j]? = some o → (aheads os ms)[ms.length + j]? = some (ahead ((aheads os ms).take (ms.length + j)) o)
  | [], _, _, _, h => by simp at h
  | o :: os, ms, 0, o', h => by
    simp only [List.getElem?_cons_zero, Option.some.injEq] at h
    subst h
    show (aheads os (ms ++ [ahead ms o]))[ms.length + 0]? = some (ahead ((aheads os (ms ++ [ahead ms o])).take (ms.length + 0)) o)
    obtain ⟨h1, h2⟩ := aheads_get os (ms ++ [ahead ms o])
    have e : (aheads os (ms ++ [ahead ms o])).take ms.length = ms := by
      apply List.ext_getElem?
      intro j
      rw [List.getElem?_take]
      by_cases hj : j < ms.length
      · rw [if_pos hj, h1 j (by simp; omega), List.getElem?_append_left hj]
      · rw [if_neg hj, List.getElem?_eq_none (by omega)]
    rw [Nat.add_zero, e, h1 _ (by simp)]
    simp
  | o :: os, ms, j + 1, o', h => by
    show (aheads os (ms ++ [ahead ms o]))[ms.length + (j + 1)]? = some (ahead ((aheads os (ms ++ [ahead ms o])).take (ms.length + (j + 1))) o')
    have := aheads_at os (ms ++ [ahead ms o]) j o' (by simpa using h)
    simp only [List.length_append, List.length_cons, List.length_nil] at this
    rw [show ms.length + (0 + 1) + j = ms.length + (j + 1) from by omega] at this
    exact this
theorem backs_get : ∀ (os : List Oper) (i j : Nat) (o : Oper), backs i os = true → os[j]? = some o → ∀ e ∈ o.after.toList, Region.binds .any e = true → e.on < i + j
  | [], _, _, _, _, h, _, _, _ => by simp at h
  | o :: os, i, 0, o', hb, h, e, he, hbd => by
    simp only [List.getElem?_cons_zero, Option.some.injEq] at h
    subst h
    simp only [backs, Bool.and_eq_true, backB, List.all_eq_true] at hb
    have := hb.1 e he
    rw [hbd] at this
    exact Nat.lt_of_lt_of_eq (Nat.le_of_ble_eq_true this) (by omega)
  | o :: os, i, j + 1, o', hb, h, e, he, hbd => by
    simp only [backs, Bool.and_eq_true] at hb
    have := backs_get os (i + 1) j o' hb.2 (by simpa using h) e he hbd
    omega
def Closed (ops : List Oper) (E : Nat → Bool) : Prop := ∀ j o, ops[j]? = some o → E j = true → ∀ e ∈ o.after.toList, Region.binds .any e = true → E e.on = true
theorem closed_ahead {ops : List Oper} (hb : backs 0 ops = true) {E : Nat → Bool} (hE : Closed ops E) : ∀ (j : Nat) (o : Oper) (i : Nat), ops[j]? = some o → (∀ e ∈ o.after.toList, Region.binds .any e = true → E e.on = true) →
    ((aheads ops []).getD j 0).testBit i = true → E i = true := by
  intro j
  induction j using Nat.strongRecOn with
  | _ j ih =>
    intro o i ho he hbit
    have h1 := aheads_at ops [] j o ho
    simp only [List.length_nil, Nat.zero_add] at h1
    rw [List.getD_eq_getElem?_getD, h1] at hbit
    obtain ⟨e, hem, hbd, hor⟩ := ahead_bit hbit
    rcases hor with rfl | hor
    · exact he e hem hbd
    · have hlt := backs_get ops 0 j o hb ho e hem hbd
      rw [Nat.zero_add] at hlt
      have hlen : j < ops.length := (List.getElem?_eq_some_iff.1 ho).1
      have ho' : ops[e.on]? = some ops[e.on] := List.getElem?_eq_getElem (by omega)
      refine ih e.on hlt _ i ho' (fun e' he' hbd' => hE e.on _ ho' (he e hem hbd) e' he' hbd') ?_
      rw [List.getD_eq_getElem?_getD, List.getElem?_take, if_pos hlt] at hor
      rw [List.getD_eq_getElem?_getD]
      exact hor
theorem clear1_get {τ : Type} {i : Nat} {r : Row τ} {ms : List Nat} : ∀ (rs : List (Row τ)) (j k : Nat) (s : Row τ), clear1 i r j rs ms = true → rs[k]? = some s → meddle r s = true → (ms.getD (j + k) 0).testBit i = true
  | s0 :: rs, j, 0, s, h, hk, hm => by
    simp only [List.getElem?_cons_zero, Option.some.injEq] at hk
    subst hk
    simp only [clear1, Bool.and_eq_true] at h
    rw [hm] at h
    exact h.1
  | s0 :: rs, j, k + 1, s, h, hk, hm => by
    simp only [clear1, Bool.and_eq_true] at h
    have := clear1_get rs (j + 1) k s h.2 (by simpa using hk) hm
    rwa [show j + 1 + k = j + (k + 1) from by omega] at this
theorem clearB_get {τ : Type} {ms : List Nat} : ∀ (rs : List (Row τ)) (i m k : Nat) (r s : Row τ), clearB ms i rs = true → rs[m]? = some r → rs[k]? = some s → m < k → meddle r s = true → (ms.getD (i + k) 0).testBit (i + m) = true
  | r0 :: rs, i, 0, k + 1, r, s, h, hm, hk, hlt, hmd => by
    simp only [List.getElem?_cons_zero, Option.some.injEq] at hm
    subst hm
    simp only [clearB, Bool.and_eq_true] at h
    have := clear1_get rs (i + 1) k s h.1 (by simpa using hk) hmd
    rwa [show i + 1 + k = i + (k + 1) from by omega] at this
  | r0 :: rs, i, m + 1, k + 1, r, s, h, hm, hk, hlt, hmd => by
    simp only [clearB, Bool.and_eq_true] at h
    have := clearB_get rs (i + 1) m k r s h.2 (by simpa using hm) (by simpa using hk) (by omega) hmd
    rwa [show i + 1 + k = i + (k + 1) from by omega, show i + 1 + m = i + (m + 1) from by omega] at this
theorem meets_of {a b : List Ref} {x : Ref} (ha : x ∈ a) (hb : x ∈ b) : meets a b = true := by
  unfold meets
  rw [List.any_eq_true]
  refine ⟨x, ha, ?_⟩
  rw [List.any_eq_true]
  exact ⟨x, hb, Ref.beq_spec.2 rfl⟩
theorem wpAny_draw {Γ : Gam D} (hΓ : GamOK P D Γ) {ops : Array Oper} {M : Mem} {w0 : World} {Q : Exit → Act → World → Prop} {nid : Nat} {S : St D.τ} {ds ds' : List (Dec D.τ)} {rs : List (Row D.τ)}
    (hrows : rows P D Γ ops nid ops.toList S ds = some (rs, ds')) (hps : AllPs rs) (hok : drawOk ops.toList rs = true) (hQ : ∀ a' w', R D M w0 (S.appRows rs) a' w' → Q .normal a' w') :
    ∀ (fuel : Nat) (listed : Array Bool) (a : Act) (w : World), listed.size = ops.size → (List.range ops.size).countP (fun i => !listed.getD i false) = fuel →
      Closed ops.toList (fun i => listed.getD i false) → R D M w0 (appE (fun i => listed.getD i false) 0 rs S) a w → wpAny P .any ops Q fuel listed a w := by
  obtain ⟨hlen, hget⟩ := rows_get ops.toList nid S ds ds' rs hrows
  simp only [drawOk, Bool.and_eq_true] at hok
  obtain ⟨hbk, hcl⟩ := hok
  have hlen' : rs.length = ops.size := by rw [hlen]; simp
  -- where all have been carried out
  have hdone : ∀ (listed : Array Bool) (a : Act) (w : World), (∀ i, i < ops.size → listed.getD i false = true) → R D M w0 (appE (fun i => listed.getD i false) 0 rs S) a w → Q .normal a w := by
    intro listed a w hall hR
    rw [appE_all rs 0 S (fun k hk => by rw [Nat.zero_add]; exact hall k (by omega))] at hR
    exact hQ a w hR
  intro fuel
  induction fuel with
  | zero =>
    intro listed a w hsz hcnt hcd hR
    have hall : ∀ i, i < ops.size → listed.getD i false = true := by
      intro i hi
      rw [List.countP_eq_zero] at hcnt
      have := hcnt i (List.mem_range.2 hi)
      simpa using this
    refine ⟨?_, hdone listed a w hall hR⟩
    cases hr : Region.ready .any ops listed with
    | nil => rfl
    | cons j rest =>
      have hj : j ∈ Region.ready .any ops listed := by rw [hr]; simp
      unfold Region.ready at hj
      rw [List.mem_filter] at hj
      obtain ⟨hj1, hj2⟩ := hj
      have hlt := List.mem_range.1 hj1
      simp only [Bool.and_eq_true] at hj2
      have h1 := hall j hlt
      have hs : j < listed.size := by omega
      simp [Array.getD, hs] at h1 hj2
      rw [h1] at hj2
      simp at hj2
  | succ fuel ih =>
    intro listed a w hsz hcnt hcd hR
    refine ⟨fun hr => ?_, fun i hi => ?_⟩
    · -- none is ready: then all have been carried out
      refine hdone listed a w (fun i => ?_) hR
      induction i using Nat.strongRecOn with
      | _ i ihi =>
        intro hi
        cases hli : listed.getD i false with
        | true => rfl
        | false =>
          have hin : i ∈ Region.ready .any ops listed := by
            unfold Region.ready
            rw [List.mem_filter]
            refine ⟨List.mem_range.2 hi, ?_⟩
            have ho : ops[i]? = some ops[i] := Array.getElem?_eq_getElem hi
            have ho' : ops.toList[i]? = some ops[i] := by simp [hi]
            rw [ho]
            have h2 : listed.getD i true = false := by
              have hs : i < listed.size := by omega
              simp [Array.getD, hs] at hli ⊢
              exact hli
            simp only [h2, Bool.not_false, Option.map_some, Option.getD_some, Bool.true_and]
            rw [← Array.all_toList, List.all_eq_true]
            intro e he
            cases hbd : Region.binds .any e with
            | false => rfl
            | true =>
              have hlt := backs_get ops.toList 0 i _ hbk ho' e he hbd
              rw [Nat.zero_add] at hlt
              have := ihi e.on hlt (by omega)
              simp [this]
          rw [hr] at hin
          cases hin
    · obtain ⟨hun, o, ho, hall⟩ := mem_ready.1 hi
      have hilt : i < ops.size := by
        rcases Nat.lt_or_ge i ops.size with h | h
        · exact h
        · rw [Array.getElem?_eq_none h] at ho; cases ho
      have hoL : ops.toList[i]? = some o := by rw [Array.getElem?_toList]; exact ho
      have hEi : listed.getD i false = false := by
        have hs : i < listed.size := by omega
        simp [Array.getD, hs] at hun ⊢
        exact hun
      have hbef : ∀ e ∈ o.after.toList, Region.binds .any e = true → (fun i => listed.getD i false) e.on = true := fun e he hbd => hall e (by simpa using he) hbd
      obtain ⟨row, r, l, d, hrow, hd, hrun, hrd, hus, hrps⟩ := hget i o hoL
      have hanc : ∀ k, ((aheads ops.toList []).getD i 0).testBit k = true → listed.getD k false = true := fun k hk => closed_ahead hbk hcd i o k hoL hbef hk
      have hdesc : ∀ k, k < ops.size → listed.getD k false = true → ((aheads ops.toList []).getD k 0).testBit i = true → False := by
        intro k hk hkE hbit
        have hok : ops.toList[k]? = some ops[k] := by simp [hk]
        have := closed_ahead hbk hcd k _ i hok (fun e he hbd => hcd k _ hok hkE e he hbd) hbit
        rw [hEi] at this
        cases this
      -- what it looks at is as in the text's order
      have hagree : ∀ x ∈ l, ag (S.appRows (rs.take i)) (appE (fun i => listed.getD i false) 0 rs S) x := by
        intro x hx
        have e0 := appE_take rs 0 i S
        rw [← e0]
        refine appE_ag rs 0 (fun k s hk hw => ?_) (ag_refl _ _)
        rw [Nat.zero_add, Nat.zero_add]
        have hklt : k < ops.size := by have := (List.getElem?_eq_some_iff.1 hk).1; omega
        have hxr : x ∈ row.reads := by rw [hrd]; exact hx
        rcases Nat.lt_trichotomy k i with hlt | heq | hgt
        · have hm : meddle s row = true := by unfold meddle; rw [meets_of hw hxr]; rfl
          have := clearB_get rs 0 k i s row hcl hk hrow hlt hm
          rw [Nat.zero_add, Nat.zero_add] at this
          rw [hanc k this]
          simp [hlt]
        · subst heq
          rw [hEi]
          simp
        · have hm : meddle row s = true := by unfold meddle; rw [meets_of hxr hw]; simp
          have := clearB_get rs 0 i k row s hcl hrow hk hgt hm
          rw [Nat.zero_add, Nat.zero_add] at this
          cases hkE : listed.getD k false with
          | true => exact (hdesc k hklt hkE this).elim
          | false => simp; omega
      have hrun' := run_local hrun hagree
      unfold wpOp
      rw [ho]
      refine gop_step hΓ hrun' (by rw [← hrps]; exact hps row (List.mem_of_getElem? hrow)) (by rw [appE_nt]; exact hd) hR (fun a' w' hR' => ?_)
      rw [← hus] at hR'
      -- the state behind it
      have hset : ∀ k, (listed.setIfInBounds i true).getD k false = if k = i then true else listed.getD k false := by
        intro k
        by_cases hk : k = i
        · subst hk
          rw [if_pos rfl]
          have hs : k < listed.size := by omega
          simp [Array.getD, hs]
        · rw [if_neg hk]
          exact getD_set_ne false (Ne.symm hk)
      have hst : (appE (fun i => listed.getD i false) 0 rs S).app row.us = appE (fun k => (listed.setIfInBounds i true).getD k false) 0 rs S := by
        refine St.ext' (by rw [app_nt, appE_nt, appE_nt]) (by rw [app_np, appE_np, appE_np]) (fun x => ?_)
        by_cases hx : x ∈ row.writes
        · refine ag_symm (appE_last rs 0 i S _ hrow hx (by rw [Nat.zero_add, hset]; simp) (fun k s hk hgt hE hw => ?_))
          rw [Nat.zero_add, hset, if_neg (by omega)] at hE
          have hklt : k < ops.size := by have := (List.getElem?_eq_some_iff.1 hk).1; omega
          have hm : meddle row s = true := by unfold meddle; rw [meets_of hx hw]; simp
          have := clearB_get rs 0 i k row s hcl hrow hk hgt hm
          rw [Nat.zero_add, Nat.zero_add] at this
          exact hdesc k hklt hE this
        · refine ag_trans (app_other _ _ hx) (appE_ag rs 0 (fun k s hk hw => ?_) (ag_refl _ _))
          rw [Nat.zero_add, hset]
          by_cases hki : k = i
          · subst hki
            rw [hrow] at hk
            simp only [Option.some.injEq] at hk
            subst hk
            exact absurd hw hx
          · rw [if_neg hki]
      rw [hst] at hR'
      refine ih (listed.setIfInBounds i true) a' w' (by simpa using hsz) ?_ ?_ hR'
      · -- one fewer is left
        have hcount : ∀ (L : List Nat), L.Nodup → i ∈ L → L.countP (fun k => !listed.getD k false) = L.countP (fun k => !(listed.setIfInBounds i true).getD k false) + 1 := by
          intro L
          induction L with
          | nil => intro _ h; cases h
          | cons k L ihL =>
            intro hnd hmem
            rw [List.nodup_cons] at hnd
            rw [List.countP_cons, List.countP_cons, hset k]
            by_cases hki : k = i
            · subst hki
              have hsame : L.countP (fun k => !listed.getD k false) = L.countP (fun j => !(listed.setIfInBounds k true).getD j false) := by
                refine List.countP_congr fun j hj => ?_
                rw [hset j, if_neg (by rintro rfl; exact hnd.1 hj)]
              rw [hsame]
              simp [hEi]
            · have := ihL hnd.2 (by simpa [Ne.symm hki] using hmem)
              rw [this, if_neg hki]
              omega
        have := hcount (List.range ops.size) List.nodup_range (List.mem_range.2 hilt)
        omega
      · intro j o' ho' hj e he hbd
        show (listed.setIfInBounds i true).getD e.on false = true
        rw [hset]
        by_cases hei : e.on = i
        · rw [if_pos hei]
        · rw [if_neg hei]
          have hj' : (listed.setIfInBounds i true).getD j false = true := hj
          rw [hset] at hj'
          by_cases hji : j = i
          · subst hji
            rw [hoL] at ho'
            simp only [Option.some.injEq] at ho'
            subst ho'
            exact hbef e he hbd
          · rw [if_neg hji] at hj'
            exact hcd j o' ho' hj' e he hbd
end
end Go.Abs
namespace Go.Abs
open Go.RowKit
section
variable (P : Program) (D : Dom)
def Ex.out : Ex → Exit
  | .normal => .normal
  | .exit id => .exit id
  | .ret => .ret
def SumOK (c : Code) (L : St D.τ → Option (Ex × St D.τ × List Prop)) : Prop :=
  ∀ S e S' ps, L S = some (e, S', ps) → (∀ p ∈ ps, p) → ∀ M w0 a w Q, R D M w0 S a w → (∀ a' w', R D M w0 S' a' w' → Q e.out a' w') → (Code.loop c).wp P Q a w
structure Out where
  e : Ex
  S : St D.τ
  ps : List Prop
  ds : List (Dec D.τ)
  nid : Nat
def rowPs {τ : Type} : List (Row τ) → List Prop
  | [] => []
  | r :: rs => r.ps ++ rowPs rs
def exec (Γ : Gam D) : Nat → Code → Nat → St D.τ → List (Dec D.τ) → Option (Out D)
  | 0, _, _, _, _ => none
  | f + 1, c, nid, S, ds =>
    match c with
    | .skip => some ⟨.normal, S, [], ds, nid⟩
    | .label _ => some ⟨.normal, S, [], ds, nid⟩
    | .ret => some ⟨.ret, S, [], ds, nid⟩
    | .exit id => some ⟨.exit id, S, [], ds, nid⟩
    | .seq a b => match exec Γ f a nid S ds with
      | some ⟨.normal, S1, p1, ds1, n1⟩ => match exec Γ f b n1 S1 ds1 with
        | some ⟨e, S2, p2, ds2, n2⟩ => some ⟨e, S2, p1 ++ p2, ds2, n2⟩
        | none => none
      | some o => some o
      | none => none
    | .cond x a b => match evalA S x with
      | some (.v (.one (.bool true v))) => exec Γ f (bif v then a else b) nid S ds
      | some (.v (.one (.bool false v))) => match ds with
        | .is u :: ds1 => match exec Γ f (bif u then a else b) nid S ds1 with
          | some ⟨e, S2, p2, ds2, n2⟩ => some ⟨e, S2, (v = u) :: p2, ds2, n2⟩
          | none => none
        | _ => none
      | _ => none
    | .block id a => match exec Γ f a nid S ds with
      | some ⟨.exit j, S1, p1, ds1, n1⟩ => bif Nat.beq j id then some ⟨.normal, S1, p1, ds1, n1⟩ else some ⟨.exit j, S1, p1, ds1, n1⟩
      | some o => some o
      | none => none
    | .scope a => exec Γ f a nid S ds
    | .loop a => match ds with
      | .loop L :: ds1 => match L S with
        | some (e, S1, p1) => some ⟨e, S1, SumOK P D a L :: p1, ds1, nid⟩
        | none => none
      | .roll :: ds => match exec Γ f a nid S ds with
        | some ⟨.normal, S1, p1, ds1, n1⟩ => match exec Γ f (.loop a) n1 S1 (.roll :: ds1) with
          | some ⟨e, S2, p2, ds2, n2⟩ => some ⟨e, S2, p1 ++ p2, ds2, n2⟩
          | none => none
        | some o => some o
        | none => none
      | _ => none
    | .region _ ops draw => match rows P D Γ ops nid ops.toList S ds with
      | some (rs, ds1) => bif !draw || drawOk ops.toList rs then some ⟨.normal, S.appRows rs, rowPs rs, ds1, nid + 16 * ops.toList.length⟩ else none
      | none => none
    | _ => none
end
section
variable {P : Program} {D : Dom}
theorem rowPs_all {τ : Type} : ∀ {rs : List (Row τ)}, (∀ p ∈ rowPs rs, p) → AllPs rs
  | [], _ => fun r hr => by cases hr
  | r :: rs, h => by
    intro r' hr' p hp
    rcases List.mem_cons.1 hr' with rfl | hr'
    · exact h p (List.mem_append_left _ hp)
    · exact rowPs_all (fun p hp => h p (List.mem_append_right _ hp)) r' hr' p hp
theorem wp_region_rows {Γ : Gam D} (hΓ : GamOK P D Γ) (hm : P.follows .mixedOrders = true) {id : Nat} {ops : Array Oper} {draw : Bool} {M : Mem} {w0 : World} {Q : Exit → Act → World → Prop} {nid : Nat} {S : St D.τ} {ds ds' : List (Dec D.τ)} {rs : List (Row D.τ)}
    (hrows : rows P D Γ ops nid ops.toList S ds = some (rs, ds')) (hps : AllPs rs) (hok : (!draw || drawOk ops.toList rs) = true) {a : Act} {w : World} (hR : R D M w0 S a w)
    (hQ : ∀ a' w', R D M w0 (S.appRows rs) a' w' → Q .normal a' w') : (Code.region id ops draw).wp P Q a w := by
  cases draw with
  | false =>
    refine wp_region ?_
    have h := wpOps_seq (Q := Q) hΓ ops.toList 0 nid S ds ds' rs a w (fun j => by rw [Nat.zero_add, Array.getElem?_toList]) hrows hps hR hQ
    rw [List.range_eq_range']
    simpa using h
  | true =>
    simp only [Bool.not_true, Bool.false_or] at hok
    have hR' : R D M w0 S a { w with drawn := w.drawn + 1 } := by
      obtain ⟨σ, ν, hRR, hA⟩ := hR
      exact ⟨σ, ν, ⟨fun b => BoxRel.stays _ _ w _ _ _ ⟨fun _ h => h, fun _ _ => rfl, fun _ _ => rfl, rfl, rfl, ⟨rfl, rfl⟩, Loc.le_refl _⟩ rfl rfl rfl (fun _ _ => rfl) (hRR.boxes b), hRR.disj, hRR.lo, ⟨hRR.kept.os, hRR.kept.tape, hRR.kept.output, hRR.kept.size, hRR.kept.block⟩, hRR.zk, hRR.zd, hRR.pins, hRR.glob, hRR.z0, hRR.zn⟩, hA⟩
    refine wp_region_any hm (wpAny_draw hΓ hrows hps hok hQ ops.size (Array.replicate ops.size false) a _ (by simp) ?_ ?_ ?_)
    · rw [List.countP_eq_length.2]
      · simp
      · intro i hi
        have := List.mem_range.1 hi
        simp [this]
    · intro j o ho hj
      have : (Array.replicate ops.size false).getD j false = false := by
        by_cases hj' : j < ops.size
        · simp [hj']
        · simp [Array.getD, hj']
      have hj' : (Array.replicate ops.size false).getD j false = true := hj
      rw [this] at hj'
      cases hj'
    · have : ∀ (rs : List (Row D.τ)) (i : Nat) (T : St D.τ), appE (fun i => (Array.replicate ops.size false).getD i false) i rs T = T := by
        intro rs
        induction rs with
        | nil => intro i T; rfl
        | cons r rs ih =>
          intro i T
          show appE _ (i + 1) rs (bif (Array.replicate ops.size false).getD i false then T.app r.us else T) = T
          have : (Array.replicate ops.size false).getD i false = false := by
            by_cases hj' : i < ops.size
            · simp [hj']
            · simp [Array.getD, hj']
          rw [this]
          exact ih (i + 1) T
      rw [this]
      exact hR'
def ExecOK (P : Program) (D : Dom) (Γ : Gam D) (f : Nat) (c : Code) : Prop := ∀ (nid : Nat) (S : St D.τ) (ds : List (Dec D.τ)) (o : Out D), exec P D Γ f c nid S ds = some o → (∀ p ∈ o.ps, p) →
    ∀ M w0 a w Q, R D M w0 S a w → (∀ a' w', R D M w0 o.S a' w' → Q o.e.out a' w') → c.wp P Q a w
theorem roll_sound {Γ : Gam D} {x : Code} {f : Nat} (ih : ∀ g, g ≤ f → ExecOK P D Γ g x) : ∀ (nid : Nat) (S : St D.τ) (ds : List (Dec D.τ)) (o : Out D), exec P D Γ (f + 1) (.loop x) nid S (.roll :: ds) = some o → (∀ p ∈ o.ps, p) →
    ∀ M w0 a w Q, R D M w0 S a w → (∀ a' w', R D M w0 o.S a' w' → Q o.e.out a' w') → (Code.loop x).wp P Q a w := by
  intro nid S ds o h hps M w0 a w Q hR hQ
  let I : Nat → Act → World → Prop := fun g a w => g ≤ f + 1 ∧ ∃ nid S ds o, exec P D Γ g (.loop x) nid S (.roll :: ds) = some o ∧ (∀ p ∈ o.ps, p) ∧ R D M w0 S a w ∧ ∀ a' w', R D M w0 o.S a' w' → Q o.e.out a' w'
  have hI0 : ∃ g, I g a w := ⟨f + 1, Nat.le_refl _, nid, S, ds, o, h, hps, hR, hQ⟩
  have hleast : ∀ a w, (∃ g, I g a w) → ∃ g, I g a w ∧ ∀ g', I g' a w → g ≤ g' := by
    intro a w ⟨g, hg⟩
    induction g using Nat.strongRecOn with
    | _ g ihg =>
      by_cases hex : ∃ g', g' < g ∧ I g' a w
      · obtain ⟨g', h1, h2⟩ := hex
        exact ihg g' h1 h2
      · refine ⟨g, hg, fun g' h' => ?_⟩
        rcases Nat.lt_or_ge g' g with h1 | h1
        · exact (hex ⟨g', h1, h'⟩).elim
        · exact h1
  let μ : Act → World → Nat := fun a w => open Classical in if h : ∃ g, I g a w then Classical.choose (hleast a w h) else 0
  have hμ : ∀ a w, (∃ g, I g a w) → I (μ a w) a w ∧ ∀ g', I g' a w → μ a w ≤ g' := by
    intro a w h
    have e : μ a w = Classical.choose (hleast a w h) := dif_pos h
    rw [e]
    exact Classical.choose_spec (hleast a w h)
  refine wp_loop (fun a w => ∃ g, I g a w) μ hI0 (fun a w hI => ?_)
  obtain ⟨⟨hle, nid, S, ds, o, h, hps, hR, hQ⟩, _⟩ := hμ a w hI
  generalize hg : μ a w = g at h hle
  cases g with
  | zero => simp [exec] at h
  | succ g =>
    simp only [exec] at h
    split at h
    · rename_i S1 p1 ds1 n1 h1
      split at h
      · rename_i e S2 p2 ds2 n2 h2
        simp only [Option.some.injEq] at h
        subst h
        refine ih g (by omega) nid S ds _ h1 (fun p hp => hps p (List.mem_append_left _ hp)) M w0 a w _ hR (fun a' w' hR' => ?_)
        have hI' : I g a' w' := ⟨by omega, n1, S1, ds1, _, h2, fun p hp => hps p (List.mem_append_right _ hp), hR', hQ⟩
        exact ⟨⟨g, hI'⟩, by have := (hμ a' w' ⟨g, hI'⟩).2 g hI'; omega⟩
      · cases h
    · rename_i o' hne h1
      simp only [Option.some.injEq] at h
      subst h
      refine ih g (by omega) nid S ds _ h1 hps M w0 a w _ hR (fun a' w' hR' => ?_)
      have := hQ a' w' hR'
      obtain ⟨e, S1, p1, ds1, n1⟩ := o'
      cases e
      case normal => exact (hne _ _ _ _ rfl).elim
      case exit id => exact this
      case ret => exact this
    · cases h
theorem exec_sound {Γ : Gam D} (hΓ : GamOK P D Γ) (hm : P.follows .mixedOrders = true) : ∀ (f : Nat) (c : Code), ExecOK P D Γ f c := by
  intro f
  induction f using Nat.strongRecOn with
  | _ f ihs =>
    intro c nid S ds o h hps M w0 a w Q hR hQ
    cases f with
    | zero => simp [exec] at h
    | succ f =>
    have ih : ∀ c, ExecOK P D Γ f c := ihs f (Nat.lt_succ_self f)
    unfold exec at h
    split at h
    · simp only [Option.some.injEq] at h; subst h; exact wp_skip (hQ a w hR)
    · simp only [Option.some.injEq] at h; subst h; exact wp_label (hQ a w hR)
    · simp only [Option.some.injEq] at h; subst h; exact wp_ret (hQ a w hR)
    · simp only [Option.some.injEq] at h; subst h; exact wp_exit (hQ a w hR)
    · rename_i x y
      split at h
      · rename_i S1 p1 ds1 n1 h1
        split at h
        · rename_i e S2 p2 ds2 n2 h2
          simp only [Option.some.injEq] at h
          subst h
          refine wp_seq (ih x nid S ds _ h1 (fun p hp => hps p (List.mem_append_left _ hp)) M w0 a w _ hR (fun a' w' hR' => ?_))
          exact ih y n1 S1 ds1 _ h2 (fun p hp => hps p (List.mem_append_right _ hp)) M w0 a' w' Q hR' hQ
        · cases h
      · rename_i o' hne h1
        simp only [Option.some.injEq] at h
        subst h
        refine wp_seq (ih x nid S ds _ h1 hps M w0 a w _ hR (fun a' w' hR' => ?_))
        have := hQ a' w' hR'
        obtain ⟨e, S1, p1, ds1, n1⟩ := o'
        cases e
        case normal => exact (hne _ _ _ _ rfl).elim
        case exit id => exact this
        case ret => exact this
      · cases h
    · rename_i x y z
      split at h
      · rename_i v hv
        obtain ⟨σ, ν, hRR, hA⟩ := id hR
        have hb := bool_rel (evalA_rel hA hv)
        refine wp_cond hb ?_
        have := ih _ nid S ds o h hps M w0 a w Q hR hQ
        cases v <;> exact this
      · rename_i v hv
        obtain ⟨σ, ν, hRR, hA⟩ := id hR
        have hb := bool_rel (evalA_rel hA hv)
        split at h
        · rename_i u ds1
          split at h
          · rename_i e S2 p2 ds2 n2 h2
            simp only [Option.some.injEq] at h
            subst h
            have huv : v = u := hps _ (by simp)
            subst huv
            refine wp_cond hb ?_
            have := ih _ nid S ds1 _ h2 (fun p hp => hps p (List.mem_cons_of_mem _ hp)) M w0 a w Q hR hQ
            cases v <;> exact this
          · cases h
        · cases h
      · cases h
    · rename_i id x
      split at h
      · rename_i j S1 p1 ds1 n1 h1
        cases hb : Nat.beq j id <;> simp only [hb, cond_true, cond_false, Option.some.injEq] at h
        · subst h
          refine wp_block (ih x nid S ds _ h1 hps M w0 a w _ hR (fun a' w' hR' => ?_))
          have hne : j ≠ id := fun e => by subst e; simp at hb
          have := hQ a' w' hR'
          simp only [Ex.out] at this ⊢
          simpa [Exit.inBlock, hne] using this
        · subst h
          refine wp_block (ih x nid S ds _ h1 hps M w0 a w _ hR (fun a' w' hR' => ?_))
          have he : j = id := Nat.eq_of_beq_eq_true hb
          have := hQ a' w' hR'
          simp only [Ex.out] at this ⊢
          simpa [Exit.inBlock, he] using this
      · rename_i o' hne h1
        simp only [Option.some.injEq] at h
        subst h
        refine wp_block (ih x nid S ds _ h1 hps M w0 a w _ hR (fun a' w' hR' => ?_))
        have := hQ a' w' hR'
        obtain ⟨e, S1, p1, ds1, n1⟩ := o'
        cases e
        case normal => exact this
        case exit id => exact (hne _ _ _ _ _ rfl).elim
        case ret => exact this
      · cases h
    · rename_i x
      refine wp_scope_straight (ih x nid S ds o h hps M w0 a w _ hR (fun a' w' hR' => ?_))
      have := hQ a' w' hR'
      cases he : o.e <;> rw [he] at this <;> exact this
    · rename_i x
      split at h
      · rename_i L ds1
        split at h
        · rename_i e S1 p1 h1
          simp only [Option.some.injEq] at h
          subst h
          have hs : SumOK P D x L := hps _ (by simp)
          exact hs S e S1 p1 h1 (fun p hp => hps p (List.mem_cons_of_mem _ hp)) M w0 a w Q hR hQ
        · cases h
      · rename_i ds1
        exact roll_sound (fun g hg => ihs g (Nat.lt_succ_of_le hg) x) nid S ds1 o (by simp only [exec]; exact h) hps M w0 a w Q hR hQ
      · cases h
    · rename_i id ops draw
      split at h
      · rename_i rs ds1 hrs
        cases hok : (!draw || drawOk ops.toList rs) <;> simp only [hok, cond_true, cond_false] at h
        · cases h
        · simp only [Option.some.injEq] at h
          subst h
          exact wp_region_rows hΓ hm hrs (rowPs_all hps) hok hR hQ
      · cases h
    · cases h
end
end Go.Abs
namespace Go.Abs
open Go.RowKit
section
variable (P : Program) (D : Dom)
def argSlots : Nat → List (A0 D.τ) → Nat → Option (AV D.τ)
  | _, [], _ => none
  | i, x :: xs, t => bif Nat.beq t i then some (.v x) else argSlots (i + 1) xs t
def St.start (n : Nat) (xs : List (A0 D.τ)) : St D.τ := ⟨argSlots D 0 xs, fun _ => .un, n, 0⟩
def giveP (S : St D.τ) (bs : List Nat) : Part D.τ → Option (Part D.τ × List Nat)
  | .own b => match S.box b with
    | .dyn e (.ints k l) => bif bs.any (Nat.beq b) then none else some (.fresh bs.length e k l, bs ++ [b])
    | _ => none
  | .int k l n => some (.int k l n, bs)
  | .bool l n => some (.bool l n, bs)
  | .str s => some (.str s, bs)
  | .nil => some (.nil, bs)
  | .tag t => some (.tag t, bs)
  | .ints k l => some (.ints k l, bs)
  | .tags s l => some (.tags s l, bs)
  | .arr k n l => some (.arr k n l, bs)
  | .nilp => some (.nilp, bs)
  | _ => none
def givePs (S : St D.τ) : List Nat → List (Part D.τ) → Option (List (Part D.τ) × List Nat)
  | bs, [] => some ([], bs)
  | bs, p :: ps => match giveP D S bs p with
    | some (q, b1) => match givePs S b1 ps with
      | some (qs, b2) => some (q :: qs, b2)
      | none => none
    | none => none
def give0 (S : St D.τ) (bs : List Nat) : A0 D.τ → Option (A0 D.τ × List Nat)
  | .one p => match giveP D S bs p with
    | some (q, b1) => some (.one q, b1)
    | none => none
  | .agg ps => match givePs D S bs ps with
    | some (qs, b1) => some (.agg qs, b1)
    | none => none
def give0s (S : St D.τ) : List Nat → List (A0 D.τ) → Option (List (A0 D.τ) × List Nat)
  | bs, [] => some ([], bs)
  | bs, p :: ps => match give0 D S bs p with
    | some (q, b1) => match give0s S b1 ps with
      | some (qs, b2) => some (q :: qs, b2)
      | none => none
    | none => none
def cellRes (S : St D.τ) (a : Nat) (ty : TypeId) : Option (A0 D.τ × List Prop) :=
  match szOf P ty with
  | none => none
  | some n => match S.slot a with
    | some (.v (.one (.ref b off))) => match S.box b with
      | .fixed _ [.ints k l] => bif aggB P ty && Nat.beq off 0 then some (.agg [.ints k l], [l.length = n]) else none
      | .fixed _ ps => match splitP D ps off n with
        | some (_, m, _) => match mkAV (aggB P ty) m with
          | some (.v x) => some (x, [])
          | _ => none
        | none => none
      | _ => none
    | _ => none
def resOne (S : St D.τ) : ResultVar → Option (A0 D.τ × List Prop)
  | .tmp t => match S.slot t with
    | some (.v a) => some (a, [])
    | _ => none
  | .cell a ty => cellRes P D S a ty
def resList (S : St D.τ) : List ResultVar → Option (List (A0 D.τ) × List Prop)
  | [] => some ([], [])
  | r :: rs => match resOne P D S r with
    | some (a, c) => match resList S rs with
      | some (as, cs) => some (a :: as, c ++ cs)
      | none => none
    | none => none
def fnRes (S : St D.τ) (rs : List ResultVar) : Option (AV D.τ × List Prop) :=
  match resList P D S rs with
  | some ([a], c) => match give0 D S [] a with
    | some (q, _) => some (.v q, c)
    | none => none
  | some (as, c) => match give0s D S [] as with
    | some (qs, _) => some (.tup qs, c)
    | none => none
  | none => none
def runF (Γ : Gam D) (fuel : Nat) (fn : Func) (xs : List (A0 D.τ)) (ds : List (Dec D.τ)) : Option (AV D.τ × List Prop) :=
  match fn.body with
  | some c => bif Nat.ble xs.length fn.ntmps then
      match exec P D Γ fuel c 0 (St.start D fn.ntmps xs) ds with
      | some ⟨.exit _, _, _, _, _⟩ => none
      | some ⟨_, S, ps, _, _⟩ => match fnRes P D S fn.results.toList with
        | some (r, qs) => some (r, ps ++ qs)
        | none => none
      | none => none
    else none
  | none => none
end
section
variable {P : Program} {D : Dom}
theorem argSlots_get : ∀ {xs : List (A0 D.τ)} {i t : Nat} {x : AV D.τ}, argSlots D i xs t = some x → ∃ a, i ≤ t ∧ xs[t - i]? = some a ∧ x = .v a
  | [], i, t, x, h => by cases h
  | a :: xs, i, t, x, h => by
    simp only [argSlots] at h
    cases hb : Nat.beq t i <;> simp only [hb, cond_true, cond_false] at h
    · obtain ⟨b, h1, h2, h3⟩ := argSlots_get h
      refine ⟨b, by omega, ?_, h3⟩
      rw [show t - i = (t - (i + 1)) + 1 from by omega]
      exact h2
    · have := Nat.eq_of_beq_eq_true hb
      subst this
      simp only [Option.some.injEq] at h
      exact ⟨a, Nat.le_refl _, by simp, h.symm⟩
theorem start_R {xs : List (A0 D.τ)} {vs : List Value} {w : World} {n : Nat} (hG : GlobAt D w) (hx : A0sRel D (cenv w) xs vs) (hl : vs.length ≤ n) :
    R D (noM w) w (St.start D n xs) ⟨vs.toArray ++ Array.replicate (n - vs.toArray.size) undef, []⟩ w := by
  refine ⟨⟨fun _ => 0, w, fun g => g < w.heap.size, fun _ _ => False⟩, fun _ => undef, ⟨fun _ => trivial, (fun _ _ _ _ h _ => by cases h), (fun _ _ h => by cases h), Kept.refl _ w, fun _ h => ⟨h, rfl⟩, (fun _ _ h => by cases h), fun b hb => absurd hb (Nat.not_lt_zero b), ⟨hG, fun _ _ _ _ h => h⟩, fun _ h => ⟨h, rfl⟩, fun _ h => .inl h⟩, ⟨?_, rfl, fun t av h => ?_⟩⟩
  · simp [St.start]; omega
  · obtain ⟨a, h1, h2, rfl⟩ := argSlots_get h
    obtain ⟨v, hv, hr⟩ := hx.get h2
    have hlt : t < vs.length := by
      rw [Nat.sub_zero] at hv
      exact (List.getElem?_eq_some_iff.1 hv).1
    have e : (vs.toArray ++ Array.replicate (n - vs.toArray.size) undef).getD t undef = v := by
      rw [Nat.sub_zero] at hv
      simp only [Array.getD_eq_getD_getElem?, Array.getElem?_append, List.size_toArray, hlt, if_true, List.getElem?_toArray, hv, Option.getD_some]
    show A0Rel D _ a _
    rw [e]
    exact hr
def GivOK (S : St D.τ) (bs : List Nat) : Prop := bs.Nodup ∧ ∀ b ∈ bs, ∃ e k l, S.box b = .dyn e (.ints k l)
def givν (ν : Nat → Value) (bs : List Nat) (i : Nat) : Value := ((bs[i]?).map ν).getD undef
theorem giveP_sound {w0 : World} {σ : Loc} {ν : Nat → Value} {S : St D.τ} {w : World} (hR : RR D (noM w0) w0 σ ν S w) {bs b1 : List Nat} {p q : Part D.τ} {cs : List Value}
    (h : giveP D S bs p = some (q, b1)) (hb : GivOK S bs) (hp : PartRel D (S.env D (noM w0) w0 σ ν) p cs) :
    GivOK S b1 ∧ (∃ x, b1 = bs ++ x) ∧ ∀ y, PartRel D (renv w0 w (givν ν (b1 ++ y))) q cs := by
  unfold giveP at h
  split at h
  · rename_i b
    split at h
    · rename_i e k l hbx
      cases hin : bs.any (Nat.beq b) <;> simp only [hin, cond_true, cond_false] at h
      · simp only [Option.some.injEq, Prod.mk.injEq] at h
        obtain ⟨rfl, rfl⟩ := h
        have hnot : b ∉ bs := fun hm => by
          have : bs.any (Nat.beq b) = true := List.any_eq_true.2 ⟨b, hm, by simp⟩
          rw [this] at hin; cases hin
        refine ⟨⟨?_, ?_⟩, ⟨_, rfl⟩, fun y => ?_⟩
        · rw [List.nodup_append]
          exact ⟨hb.1, by simp, fun a ha c hc => by simp at hc; subst hc; exact fun e => hnot (e ▸ ha)⟩
        · intro c hc
          rcases List.mem_append.1 hc with hc | hc
          · exact hb.2 c hc
          · simp at hc; subst hc; exact ⟨e, k, l, hbx⟩
        · obtain ⟨_, _, hcs⟩ := hp
          have hν : givν ν (bs ++ [b] ++ y) bs.length = ν b := by
            simp [givν]
          have hbox := hR.boxes b
          rw [hbx] at hbox
          obtain ⟨n, xs, ho, hxs, _⟩ := hbox
          have hxs' : xs = l.map (Value.int k) := hxs
          subst hxs'
          have ho : w.ownsL 0 e 1 (ν b) n (l.map (Value.int k)) := ho
          have hn : l.length = n := by simpa using ho.1
          subst hn
          refine ⟨by show cs = [givν ν _ bs.length]; rw [hν]; exact hcs, w, rfl, ?_⟩
          show w.ownsL w0.heap.size e 1 (givν ν _ bs.length) _ _
          rw [hν]
          refine ⟨ho.1, ?_⟩
          have hlo := hR.lo b
          rw [hbx] at hlo
          rcases ho.2 with hn | ⟨g, cap, cur, hv, _, rest⟩
          · exact .inl hn
          · refine .inr ⟨g, cap, cur, hv, ?_, rest⟩
            rcases hlo g (by show (ν b).ownBlock = some g; rw [show ν b = _ from hv]; rfl) with h1 | h1
            · exact h1
            · exact h1.elim
      · cases h
    · cases h
  all_goals first
    | (cases h; done)
    | (simp only [Option.some.injEq, Prod.mk.injEq] at h
       obtain ⟨rfl, rfl⟩ := h
       exact ⟨hb, ⟨[], by simp⟩, fun y => hp⟩)
theorem givePs_sound {w0 : World} {σ : Loc} {ν : Nat → Value} {S : St D.τ} {w : World} (hR : RR D (noM w0) w0 σ ν S w) : ∀ {ps qs : List (Part D.τ)} {bs b1 : List Nat} {cs : List Value},
    givePs D S bs ps = some (qs, b1) → GivOK S bs → PartsRel D (S.env D (noM w0) w0 σ ν) ps cs →
    GivOK S b1 ∧ (∃ x, b1 = bs ++ x) ∧ ∀ y, PartsRel D (renv w0 w (givν ν (b1 ++ y))) qs cs
  | [], qs, bs, b1, cs, h, hb, hp => by
    simp only [givePs, Option.some.injEq, Prod.mk.injEq] at h
    obtain ⟨rfl, rfl⟩ := h
    exact ⟨hb, ⟨[], by simp⟩, fun _ => hp⟩
  | p :: ps, qs, bs, b1, cs, h, hb, hp => by
    simp only [givePs] at h
    obtain ⟨c1, c2, rfl, hp1, hp2⟩ := hp
    cases h1 : giveP D S bs p with
    | none => simp [h1] at h
    | some x =>
      obtain ⟨q, b2⟩ := x
      simp only [h1] at h
      cases h2 : givePs D S b2 ps with
      | none => simp [h2] at h
      | some x =>
        obtain ⟨qs', b3⟩ := x
        simp only [h2, Option.some.injEq, Prod.mk.injEq] at h
        obtain ⟨rfl, rfl⟩ := h
        obtain ⟨g1, ⟨x1, e1⟩, r1⟩ := giveP_sound hR h1 hb hp1
        obtain ⟨g2, ⟨x2, e2⟩, r2⟩ := givePs_sound hR h2 g1 hp2
        refine ⟨g2, ⟨x1 ++ x2, by rw [e2, e1, List.append_assoc]⟩, fun y => ⟨c1, c2, rfl, ?_, r2 y⟩⟩
        rw [e2, List.append_assoc]
        exact r1 _
theorem give0_sound {w0 : World} {σ : Loc} {ν : Nat → Value} {S : St D.τ} {w : World} (hR : RR D (noM w0) w0 σ ν S w) {bs b1 : List Nat} {a q : A0 D.τ} {v : Value}
    (h : give0 D S bs a = some (q, b1)) (hb : GivOK S bs) (ha : A0Rel D (S.env D (noM w0) w0 σ ν) a v) :
    GivOK S b1 ∧ (∃ x, b1 = bs ++ x) ∧ ∀ y, A0Rel D (renv w0 w (givν ν (b1 ++ y))) q v := by
  cases a with
  | one p =>
    simp only [give0] at h
    cases h1 : giveP D S bs p with
    | none => simp [h1] at h
    | some x =>
      obtain ⟨q', b2⟩ := x
      simp only [h1, Option.some.injEq, Prod.mk.injEq] at h
      obtain ⟨rfl, rfl⟩ := h
      obtain ⟨g, e, r⟩ := giveP_sound hR h1 hb ha.2
      exact ⟨g, e, fun y => ⟨ha.1, r y⟩⟩
  | agg ps =>
    simp only [give0] at h
    obtain ⟨cs, rfl, hp⟩ := ha
    cases h1 : givePs D S bs ps with
    | none => simp [h1] at h
    | some x =>
      obtain ⟨q', b2⟩ := x
      simp only [h1, Option.some.injEq, Prod.mk.injEq] at h
      obtain ⟨rfl, rfl⟩ := h
      obtain ⟨g, e, r⟩ := givePs_sound hR h1 hb hp
      exact ⟨g, e, fun y => ⟨cs, rfl, r y⟩⟩
theorem give0s_sound {w0 : World} {σ : Loc} {ν : Nat → Value} {S : St D.τ} {w : World} (hR : RR D (noM w0) w0 σ ν S w) : ∀ {as qs : List (A0 D.τ)} {bs b1 : List Nat} {vs : List Value},
    give0s D S bs as = some (qs, b1) → GivOK S bs → A0sRel D (S.env D (noM w0) w0 σ ν) as vs →
    GivOK S b1 ∧ (∃ x, b1 = bs ++ x) ∧ ∀ y, A0sRel D (renv w0 w (givν ν (b1 ++ y))) qs vs
  | [], qs, bs, b1, cs, h, hb, hp => by
    simp only [give0s, Option.some.injEq, Prod.mk.injEq] at h
    obtain ⟨rfl, rfl⟩ := h
    exact ⟨hb, ⟨[], by simp⟩, fun _ => hp⟩
  | p :: ps, qs, bs, b1, cs, h, hb, hp => by
    simp only [give0s] at h
    obtain ⟨v, us, rfl, hp1, hp2⟩ := hp
    cases h1 : give0 D S bs p with
    | none => simp [h1] at h
    | some x =>
      obtain ⟨q, b2⟩ := x
      simp only [h1] at h
      cases h2 : give0s D S b2 ps with
      | none => simp [h2] at h
      | some x =>
        obtain ⟨qs', b3⟩ := x
        simp only [h2, Option.some.injEq, Prod.mk.injEq] at h
        obtain ⟨rfl, rfl⟩ := h
        obtain ⟨g1, ⟨x1, e1⟩, r1⟩ := give0_sound hR h1 hb hp1
        obtain ⟨g2, ⟨x2, e2⟩, r2⟩ := give0s_sound hR h2 g1 hp2
        refine ⟨g2, ⟨x1 ++ x2, by rw [e2, e1, List.append_assoc]⟩, fun y => ⟨v, us, rfl, ?_, r2 y⟩⟩
        rw [e2, List.append_assoc]
        exact r1 _
theorem givν_disj {w0 : World} {σ : Loc} {ν : Nat → Value} {S : St D.τ} {w : World} (hR : RR D (noM w0) w0 σ ν S w) {bs : List Nat} (hb : GivOK S bs) :
    ∀ i j g, i ≠ j → (givν ν bs i).ownBlock = some g → (givν ν bs j).ownBlock = some g → False := by
  intro i j g hne hi hj
  have key : ∀ i, (givν ν bs i).ownBlock = some g → ∃ b, bs[i]? = some b ∧ (ν b).ownBlock = some g := by
    intro i hi
    cases hq : bs[i]? with
    | none => simp [givν, hq, undef, Value.ownBlock] at hi
    | some b => exact ⟨b, rfl, by simpa [givν, hq] using hi⟩
  obtain ⟨b, hbi, h1⟩ := key i hi
  obtain ⟨c, hcj, h2⟩ := key j hj
  have hbc : b ≠ c := by
    intro e
    subst e
    obtain ⟨li, ei⟩ := List.getElem?_eq_some_iff.1 hbi
    obtain ⟨lj, ej⟩ := List.getElem?_eq_some_iff.1 hcj
    have hp := List.pairwise_iff_getElem.1 hb.1
    rcases Nat.lt_or_gt_of_ne hne with hlt | hlt
    · exact hp i j li lj hlt (ei.trans ej.symm)
    · exact hp j i lj li hlt (ej.trans ei.symm)
  obtain ⟨e, k, l, eb⟩ := hb.2 b (List.mem_of_getElem? hbi)
  obtain ⟨e', k', l', ec⟩ := hb.2 c (List.mem_of_getElem? hcj)
  refine hR.disj b c g hbc ?_ ?_
  · rw [eb]; exact h1
  · rw [ec]; exact h2
theorem cellRes_rel {M : Mem} {w0 : World} {σ : Loc} {ν : Nat → Value} {S : St D.τ} {w : World} {a : Act} (hR : RR D M w0 σ ν S w) (hA : RA D M w0 σ ν S a) {t : Nat} {ty : TypeId} {x : A0 D.τ} {c : List Prop}
    (h : cellRes P D S t ty = some (x, c)) (hc : ∀ p ∈ c, p) : ∃ v, (do loadVar ty (← asAddr (a.tmps.getD t undef)) : Sem Value).run P w = .ok v w ∧ A0Rel D (S.env D M w0 σ ν) x v := by
  unfold cellRes at h
  split at h
  · cases h
  rename_i n hsz
  split at h
  · rename_i b off hsl
    obtain ⟨hone, hal, hv⟩ := hA.slots _ _ hsl
    simp only [List.cons.injEq, and_true] at hv
    have hv' : a.tmps.getD t undef = .pointer (some ⟨σ b, off, none⟩) := hv
    have hb := hR.boxes b
    have hrun : ∀ {u : Value}, (loadVar ty ⟨σ b, off, none⟩).run P w = .ok u w → (do loadVar ty (← asAddr (a.tmps.getD t undef)) : Sem Value).run P w = .ok u w := by
      intro u hu
      rw [hv']
      simp [asAddr, hu]
    split at h
    · rename_i ty' k il hbx
      rw [hbx] at hb
      obtain ⟨cs, hg, hp⟩ := hb
      have hg' : w.heap[σ b]? = some (.cells cs ty' (0, 0)) := hg
      obtain ⟨c1, c2, e, hp1, hp2⟩ := hp
      cases hp2
      simp only [List.append_nil, PartRel] at e hp1
      subst hp1
      cases hbb : (aggB P ty && Nat.beq off 0) <;> simp only [hbb, cond_true, cond_false] at h
      · cases h
      · simp only [Bool.and_eq_true] at hbb
        simp only [Option.some.injEq, Prod.mk.injEq] at h
        obtain ⟨rfl, rfl⟩ := h
        have ho' : off = 0 := Nat.eq_of_beq_eq_true hbb.2
        subst ho'
        have hl : il.length = n := hc _ (by simp)
        have hcell := cells_at (w := w) hg' (c1 := []) (c2 := il.map (Value.int k)) (c3 := []) (by simpa using e)
        have hr := (run_loadVarB (P := P) (a := ⟨σ b, 0, none⟩) (cs := il.map (Value.int k)) (by rw [List.length_map, hl]; exact hsz) hcell).1 hbb.1
        exact ⟨_, hrun hr, _, rfl, _, [], by simp, rfl, rfl⟩
    · rename_i ty' ps hne hbx
      rw [hbx] at hb
      obtain ⟨cs, hg, hp⟩ := hb
      have hg' : w.heap[σ b]? = some (.cells cs ty' (0, 0)) := hg
      split at h
      · rename_i m1 m m2 hsp
        split at h
        · rename_i y hy
          simp only [Option.some.injEq, Prod.mk.injEq] at h
          obtain ⟨rfl, rfl⟩ := h
          obtain ⟨c1, c2, c3, he, hl1, hl2, hr1, hr2, hr3⟩ := splitP_sound hsp hp
          have hcell := cells_at (w := w) hg' he
          rw [hl1] at hcell
          have hr := run_loadVarB (P := P) (a := ⟨σ b, off, none⟩) (cs := c2) (by rw [hl2]; exact hsz) hcell
          rcases mkAV_rel hy hr2 with ⟨hg1, hy1⟩ | ⟨hg1, v, hv1, hy1⟩
          · exact ⟨_, hrun (hr.1 hg1), hy1⟩
          · exact ⟨_, hrun (hr.2 hg1 v hv1), hy1⟩
        · cases h
      · cases h
    · cases h
  · cases h
def resRun (tmps : Array Value) : ResultVar → Sem Value
  | .tmp t => pure (tmps.getD t undef)
  | .cell a t => do loadVar t (← asAddr (tmps.getD a undef))
theorem resList_rel {M : Mem} {w0 : World} {σ : Loc} {ν : Nat → Value} {S : St D.τ} {w : World} {a : Act} (hR : RR D M w0 σ ν S w) (hA : RA D M w0 σ ν S a) : ∀ {rs : List ResultVar} {as : List (A0 D.τ)} {c : List Prop}, resList P D S rs = some (as, c) → (∀ p ∈ c, p) →
    ∃ vs : List Value, (rs.mapM (resRun a.tmps)).run P w = .ok vs w ∧ A0sRel D (S.env D M w0 σ ν) as vs
  | [], as, c, h, hc => by
    simp only [resList, Option.some.injEq, Prod.mk.injEq] at h
    obtain ⟨rfl, rfl⟩ := h
    exact ⟨[], by simp, rfl⟩
  | r :: rs, as, c, h, hc => by
    simp only [resList] at h
    split at h
    · rename_i x c1 hx
      split at h
      · rename_i xs c2 hxs
        simp only [Option.some.injEq, Prod.mk.injEq] at h
        obtain ⟨rfl, rfl⟩ := h
        obtain ⟨vs, e, hr⟩ := resList_rel hR hA hxs (fun p hp => hc p (List.mem_append_right _ hp))
        have h1 : ∃ v, (resRun a.tmps r).run P w = .ok v w ∧ A0Rel D (S.env D M w0 σ ν) x v := by
          unfold resOne at hx
          split at hx
          · rename_i t
            split at hx
            · rename_i y hy
              simp only [Option.some.injEq, Prod.mk.injEq] at hx
              obtain ⟨rfl, rfl⟩ := hx
              exact ⟨_, by simp only [resRun, Sem.run_pure], hA.slots t _ hy⟩
            · cases hx
          · exact cellRes_rel hR hA hx (fun p hp => hc p (List.mem_append_left _ hp))
        obtain ⟨v, hv, hxv⟩ := h1
        exact ⟨v :: vs, by rw [List.mapM_cons]; simp only [Sem.run_bind, hv, e, Result.andThen_ok, Sem.run_pure], v, vs, rfl, hxv, hr⟩
      · cases h
    · cases h
def retOf : List Value → Value
  | [v] => v
  | vs => .tuple vs.toArray
theorem results_eq (fn : Func) (tmps : Array Value) : results fn tmps = (do let vs ← fn.results.mapM (resRun tmps); pure (if h : vs.size = 1 then vs[0] else .tuple vs)) := by
  unfold results
  congr 1
theorem run_mapRes {f : ResultVar → Sem Value} {rs : Array ResultVar} {w : World} {vs : List Value} (h : (rs.toList.mapM f).run P w = .ok vs w) :
    ((do let vs ← rs.mapM f; pure (if h : vs.size = 1 then vs[0] else .tuple vs)) : Sem Value).run P w = .ok (retOf vs) w := by
  obtain ⟨l⟩ := rs
  simp only [List.mapM_toArray, Sem.run_bind, Sem.run_map]
  rw [h]
  simp only [Result.andThen_ok, Sem.run_pure]
  rcases vs with _ | ⟨t, _ | ⟨t', ts⟩⟩ <;> simp [retOf]
theorem run_results {fn : Func} {tmps : Array Value} {w : World} {vs : List Value} (h : (fn.results.toList.mapM (resRun tmps)).run P w = .ok vs w) :
    (results fn tmps).run P w = .ok (retOf vs) w := by
  rw [results_eq]
  exact run_mapRes h
theorem fnRes_rel {w0 : World} {σ : Loc} {ν : Nat → Value} {S : St D.τ} {w : World} {a : Act} (hR : RR D (noM w0) w0 σ ν S w) (hA : RA D (noM w0) w0 σ ν S a) {fn : Func} {r : AV D.τ} {c : List Prop}
    (h : fnRes P D S fn.results.toList = some (r, c)) (hc : ∀ p ∈ c, p) : ∃ v, (results fn a.tmps).run P w = .ok v w ∧ RRes D w0 w r v := by
  unfold fnRes at h
  split at h
  · rename_i x c1 hx
    split at h
    · rename_i q b1 hq
      simp only [Option.some.injEq, Prod.mk.injEq] at h
      obtain ⟨rfl, rfl⟩ := h
      obtain ⟨vs, e, hr⟩ := resList_rel hR hA hx hc
      refine ⟨_, run_results e, ?_⟩
      obtain ⟨v, us, hv, h1, h2⟩ := hr
      cases h2
      subst hv
      obtain ⟨g, _, hrel⟩ := give0_sound hR hq ⟨List.nodup_nil, by simp⟩ h1
      have := hrel []
      rw [List.append_nil] at this
      exact ⟨givν ν b1, givν_disj hR g, this⟩
    · cases h
  · rename_i as c1 hne hx
    split at h
    · rename_i q b1 hq
      simp only [Option.some.injEq, Prod.mk.injEq] at h
      obtain ⟨rfl, rfl⟩ := h
      obtain ⟨vs, e, hr⟩ := resList_rel hR hA hx hc
      refine ⟨_, run_results e, ?_⟩
      obtain ⟨g, _, hrel⟩ := give0s_sound hR hq ⟨List.nodup_nil, by simp⟩ hr
      have h2 := hrel []
      rw [List.append_nil] at h2
      refine ⟨givν ν b1, givν_disj hR g, ?_⟩
      unfold retOf
      split
      · rcases as with _ | ⟨x, _ | ⟨y, as⟩⟩
        · cases hr
        · exact (hne _ rfl).elim
        · obtain ⟨_, _, e2, _, _, _, e3, _⟩ := hr
          subst e3
          simp at e2
      · exact ⟨_, rfl, h2⟩
    · cases h
  · cases h
theorem Kept.below {w w' : World} (h : Kept (noM w) w w') : Below w.heap.size w w' :=
  ⟨h.os, h.tape, h.output, h.size, fun k hk => h.block k hk fun h => h⟩
theorem runF_calls {Γ : Gam D} (hΓ : GamOK P D Γ) (hm : P.follows .mixedOrders = true) {f : FuncId} {fn : Func} (hf : P.funcs[f]? = some fn) {fuel : Nat} {xs : List (A0 D.τ)} {ds : List (Dec D.τ)} {r : AV D.τ} {ps : List Prop}
    (h : runF P D Γ fuel fn xs ds = some (r, ps)) (hps : ∀ p ∈ ps, p) {w : World} {vs : List Value} (hG : GlobAt D w) (hx : A0sRel D (cenv w) xs vs) :
    Calls P f vs.toArray w fun e w' => ∃ v, e = .returned v ∧ RRes D w w' r v ∧ Below w.heap.size w w' := by
  unfold runF at h
  split at h
  · rename_i c hc
    cases hb : Nat.ble xs.length fn.ntmps <;> simp only [hb, cond_true, cond_false] at h
    · cases h
    have hlen : vs.length = xs.length := by
      clear h hb
      induction xs generalizing vs with
      | nil => cases hx; rfl
      | cons x xs ih => obtain ⟨v, us, rfl, _, h2⟩ := hx; simp [ih h2]
    have hn : vs.length ≤ fn.ntmps := by rw [hlen]; exact Nat.le_of_ble_eq_true hb
    refine calls_of_wp hf hc ?_
    split at h
    · cases h
    · rename_i e S qs ds1 n1 hne he
      split at h
      · rename_i r' qs' hr
        simp only [Option.some.injEq, Prod.mk.injEq] at h
        obtain ⟨rfl, rfl⟩ := h
        refine exec_sound hΓ hm fuel c 0 _ _ _ he (fun p hp => hps p (List.mem_append_left _ hp)) (noM w) w _ _ _ (start_R hG hx hn) (fun a' w' hR => ?_)
        obtain ⟨σ, ν, hR, hA⟩ := hR
        obtain ⟨v, hv, hres⟩ := fnRes_rel hR hA hr (fun p hp => hps p (List.mem_append_right _ hp))
        have hfin : a'.defers = [] ∧ ∃ v, (results fn a'.tmps).run P w' = .ok v w' ∧ ∃ v', Ending.returned v = .returned v' ∧ RRes D w w' r' v' ∧ Below w.heap.size w w' :=
          ⟨hA.defers, v, hv, v, rfl, hres, hR.kept.below⟩
        cases e
        · exact hfin
        · exact (hne _ rfl).elim
        · exact hfin
      · cases h
    · cases h
  · cases h
end
end Go.Abs

/- An evaluator over descriptions of values: calls, and all operations. -/
import Derived.Test.YtakigppkbolmnaaAbsN
import Derived.Laws.BytesString
namespace Go.Abs
open Go.RowKit
section
variable {P : Program} {D : Dom}

theorem reach_run {α : Type} {S : St D.τ} : ∀ {f : Nat} {ids : List Nat} {i : Nat} {k : List Nat → Rd D.τ α} {r : α} {l : List Ref}, (reach D f ids i k).run S = some (r, l) → ∃ ids' l', (k ids').run S = some (r, l')
  | 0, _, _, _, _, _, h => by simp [reach] at h
  | f + 1, ids, i, k, r, l, h => by
    simp only [reach] at h
    split at h
    · exact ⟨ids, l, h⟩
    · obtain ⟨l1, h⟩ := box_run h
      exact reach_run h

theorem passA_sound {α : Type} {M : Mem} {w0 : World} {σ : Loc} {ν : Nat → Value} {S : St D.τ} {w : World} (hR : RR D M w0 σ ν S w) {ids : List Nat} {Mp : Nat → Prop} (hMp : Foot D M w0 σ ν S ids Mp) {F : Env} (hFM : F.M = Mp) (hFw : F.w0 = w)
    (hF : RenF (idx ids) (S.env D M w0 σ ν) F) {m : Bool} {t : TypeId} {a : AV D.τ} {k : A0 D.τ → Rd D.τ α} {r : α} {l : List Ref} {v : Value}
    (h : (passA P D ids m t a k).run S = some (r, l)) (ha : AVRel D (S.env D M w0 σ ν) a v) : ∃ x l', (k x).run S = some (r, l') ∧ A0Rel D F x v := by
  unfold passA at h
  cases m <;> simp only [cond_true, cond_false] at h
  · obtain ⟨x, l', h, hx⟩ := lendA_sound hR hMp h ha
    exact ⟨x, l', h, hx F hFM hFw hF.z (fun h => by cases h)⟩
  · split at h
    · split at h
      · rename_i a0 x hx
        exact ⟨x, l, h, rn0_sound hF hx ha⟩
      · simp at h
    · simp at h

theorem passAs_sound {α : Type} {M : Mem} {w0 : World} {σ : Loc} {ν : Nat → Value} {S : St D.τ} {w : World} (hR : RR D M w0 σ ν S w) {ids : List Nat} {Mp : Nat → Prop} (hMp : Foot D M w0 σ ν S ids Mp) {F : Env} (hFM : F.M = Mp) (hFw : F.w0 = w)
    (hF : RenF (idx ids) (S.env D M w0 σ ν) F) : ∀ {as : List (AV D.τ)} {ms : List Bool} {ts : List TypeId} {k : List (A0 D.τ) → Rd D.τ α} {r : α} {l : List Ref} {vs : List Value},
    (passAs P D ids ms ts as k).run S = some (r, l) → AVsRel (S.env D M w0 σ ν) as vs → ∃ xs l', (k xs).run S = some (r, l') ∧ A0sRel D F xs vs
  | [], ms, ts, k, r, l, vs, h, hp => by
    have h' : (k []).run S = some (r, l) := by
      cases ms <;> cases ts <;> exact h
    exact ⟨[], l, h', hp⟩
  | a :: as, ms, ts, k, r, l, vs, h, hp => by
    cases ms with
    | nil => simp [passAs] at h
    | cons m ms => cases ts with
      | nil => simp [passAs] at h
      | cons t ts =>
        obtain ⟨v, us, e, h1, h2⟩ := hp
        simp only [passAs] at h
        obtain ⟨x, l1, h, hx⟩ := passA_sound hR hMp hFM hFw hF h h1
        obtain ⟨xs, l2, h, hxs⟩ := passAs_sound hR hMp hFM hFw hF h h2
        exact ⟨x :: xs, l2, h, v, us, e, hx, hxs⟩

theorem start_op {M : Mem} {w0 : World} {σ : Loc} {ν : Nat → Value} {S : St D.τ} {w : World} (hR : RR D M w0 σ ν S w) {ids : List Nat} (hnd : ids.Nodup) {bs : List (BoxSt D.τ)} (hbs : rnBs D (idx ids) (ids.map S.box) = some bs)
    {σc : Loc} {νc : Nat → Value} (hσc : σc = ⟨fun i => σ (ids.getD i 0), σ.zw, σ.zm, fun i => σ.φ (ids.getD i 0)⟩) (hνc : νc = fun i => ν (ids.getD i 0)) :
    RR D (opMem D w σc νc bs) w σc νc (bst bs.length bs) w ∧ Foot D M w0 σ ν S ids (opMem D w σc νc bs).f ∧ RenF (idx ids) (S.env D M w0 σ ν) ((bst bs.length bs).env D (opMem D w σc νc bs) w σc νc) := by
  obtain ⟨hbl, hbg⟩ := rnBs_get hbs
  rw [List.length_map] at hbl
  have hget : ∀ (i : Nat) s, bs[i]? = some s → ∃ b, ids[i]? = some b ∧ rnB D (idx ids) (S.box b) = some s ∧ σc i = σ b ∧ νc i = ν b ∧ σc.φ i = σ.φ b := by
    intro i s hs
    have hlt : i < ids.length := by have := (List.getElem?_eq_some_iff.1 hs).1; omega
    have hidi : ids[i]? = some ids[i] := List.getElem?_eq_getElem hlt
    obtain ⟨t, ht, hrt⟩ := hbg i (S.box ids[i]) (by rw [List.getElem?_map, hidi]; rfl)
    rw [hs] at ht
    simp only [Option.some.injEq] at ht
    subst ht
    refine ⟨ids[i], hidi, hrt, ?_, ?_, ?_⟩
    · rw [hσc]; show σ (ids.getD i 0) = σ ids[i]; simp [hidi, List.getD_eq_getElem?_getD]
    · rw [hνc]; show ν (ids.getD i 0) = ν ids[i]; simp [hidi, List.getD_eq_getElem?_getD]
    · rw [hσc]; show σ.φ (ids.getD i 0) = σ.φ ids[i]; simp [hidi, List.getD_eq_getElem?_getD]
  have hren : RenF (idx ids) (S.env D M w0 σ ν) ((bst bs.length bs).env D (opMem D w σc νc bs) w σc νc) := by
    have hbc : ∀ b c, idx ids b = some c → ∃ s, bs[c]? = some s ∧ rnB D (idx ids) (S.box b) = some s := by
      intro b c hbc
      have := idx_spec hbc
      exact hbg c (S.box b) (by rw [List.getElem?_map, this]; rfl)
    refine ⟨fun b c hb _ => ?_, fun b c hb => ?_, fun b c hb => ?_, ?_⟩
    · obtain ⟨s, h1, h2⟩ := hbc b c hb
      show ((bst bs.length bs).box c).al
      rw [bst_box, h1]; exact (rnB_al h2).2
    · have := idx_spec hb
      show σc c = σ b
      rw [hσc]; show σ (ids.getD c 0) = σ b; simp [this, List.getD_eq_getElem?_getD]
    · have := idx_spec hb
      show νc c = ν b
      rw [hνc]; show ν (ids.getD c 0) = ν b; simp [this, List.getD_eq_getElem?_getD]
    · rw [hσc]; exact fun g hg => ⟨hg, rfl⟩
  have hblk : ∀ i g, Fp D ((bst bs.length bs).env D (opMem D w σc νc bs) w σc νc) i ((bst bs.length bs).box i) g → ∃ b, ids[i]? = some b ∧ Fp D (S.env D M w0 σ ν) b (S.box b) g := by
    intro i g hg
    rw [bst_box] at hg
    cases hbi : bs[i]? with
    | none => rw [hbi] at hg; cases hg
    | some s =>
      rw [hbi, Option.getD_some] at hg
      obtain ⟨b, h1, h2, h3, h4, h5⟩ := hget i s hbi
      refine ⟨b, h1, ?_⟩
      exact (rnB_blk (E := S.env D M w0 σ ν) (F := (bst bs.length bs).env D (opMem D w σc νc bs) w σc νc) h3 h4 h5 h2).1 hg
  have hfoot : Foot D M w0 σ ν S ids (opMem D w σc νc bs).f := by
    rintro g ⟨i, hi⟩
    obtain ⟨b, h1, h2⟩ := hblk i g hi
    exact ⟨b, List.mem_of_getElem? h1, h2⟩
  refine ⟨⟨fun i => ?_, fun i i' g hne h1 h2 => ?_, fun i g h => .inr ⟨i, h⟩, Kept.refl _ w, fun g hg => ?_, fun i g h hz => ?_, fun i hi => ⟨rfl, rfl, ?_⟩, ⟨hR.globAt, fun g k l hg hm => ?_⟩, fun g hg => ⟨hg, rfl⟩, fun g hg => .inl hg⟩, hfoot, hren⟩
  · rw [bst_box]
    cases hbi : bs[i]? with
    | none => trivial
    | some s =>
      rw [Option.getD_some]
      obtain ⟨b, h1, h2, h3, h4, h5⟩ := hget i s hbi
      exact rnB_rel hren (b := b) h3 h4 h5 h2 (hR.boxes b)
  · obtain ⟨b, q1, q2⟩ := hblk i g h1
    obtain ⟨b', p1, p2⟩ := hblk i' g h2
    refine hR.disj b b' g (fun e => hne ?_) q2 p2
    subst e
    exact (List.getElem?_inj (List.getElem?_eq_some_iff.1 q1).1 hnd).1 (by rw [q1, p1])
  · have hz : σ.zm g := by rw [hσc] at hg; exact hg
    have := hR.zk g hz
    refine ⟨this.1, ?_⟩
    rw [hσc]; exact this.2
  · obtain ⟨b, q1, q2⟩ := hblk i g h
    exact hR.zd b g q2 (by rw [hσc] at hz; exact hz)
  · obtain ⟨s, hs⟩ : ∃ s, bs[i]? = some s := ⟨_, List.getElem?_eq_getElem hi⟩
    obtain ⟨b, h1, h2, _⟩ := hget i s hs
    rw [bst_box, hs]; exact (rnB_al h2).2
  · obtain ⟨b, _, hb⟩ := hfoot g hm
    have hlt := (hR.glob.1 g k l hg).1
    rcases hR.lo b g hb with h | h
    · omega
    · exact hR.glob.2 g k l hg h

theorem opA_sound {nid : Nat} {modes : List Bool} {F : List (BoxSt D.τ) → List (A0 D.τ) → Option (AV D.τ × List (BoxSt D.τ) × List Prop)} {f : FuncId} (hF : OpOK P D f F) {as : List (AV D.τ)} {vs : List Value} {ts : List TypeId} {S : St D.τ} {r : Res D.τ} {l : List Ref}
    (h : (oOpA P D nid modes F as ts).run S = some (r, l)) (hps : ∀ p ∈ r.ps, p) {M : Mem} {w0 : World} {σ : Loc} {ν : Nat → Value} {a : Act} {w : World} (hR : RR D M w0 σ ν S w) (hA : RA D M w0 σ ν S a) (hvs : AVsRel (S.env D M w0 σ ν) as vs) :
    UpTo P (Lands M w0 S a r) ((callFunc f vs.toArray).run P w) := by
  unfold oOpA at h
  obtain ⟨ids, l2, h⟩ := reach_run h
  cases hnd : nodupB ids <;> simp only [hnd, cond_true, cond_false, run_fail] at h
  obtain ⟨l3, h⟩ := rdBs_run h
  split at h
  · rename_i bs hbs
    obtain ⟨hst, hfoot, hren⟩ := start_op hR (nodupB_spec hnd) hbs (σc := ⟨fun i => σ (ids.getD i 0), σ.zw, σ.zm, fun i => σ.φ (ids.getD i 0)⟩) (νc := fun i => ν (ids.getD i 0)) rfl rfl
    obtain ⟨xs, l4, h, hxs⟩ := passAs_sound hR hfoot rfl rfl hren h hvs
    split at h
    · rename_i r0 bs' ps hFx
      cases hlen : Nat.ble ids.length bs'.length <;> simp only [hlen, cond_true, cond_false, run_fail] at h
      split at h
      · rename_i r' hr'
        split at h
        · rename_i us hus
          obtain ⟨⟨l5, h⟩, hun⟩ := rdUn_run h
          simp only [run_ret] at h
          obtain ⟨rfl, _⟩ := h
          obtain ⟨g, gargs, hrun, hc⟩ := hF bs xs r0 bs' ps hFx hps w _ _ _ hst hxs
          rw [hrun]
          exact hc.mono fun en w' ⟨v, hen, σ', ν', hR', hv⟩ => ⟨v, hen, lands_op hR hA (nodupB_spec hnd) hbs rfl (Nat.le_of_ble_eq_true hlen) hun hr' hus hR' hv⟩
        · simp at h
      · simp at h
    · simp at h
  · simp at h

/-! What is renamed there and back. -/

theorem rnL_back {ρ τ : Nat → Option Nat} (h : ∀ b c, ρ b = some c → τ c = some b) : ∀ {bs cs : List Nat}, rnL ρ bs = some cs → rnL τ cs = some bs
  | [], cs, e => by simp only [rnL, Option.some.injEq] at e; subst e; rfl
  | b :: bs, cs, e => by
    simp only [rnL] at e
    split at e
    · rename_i c hc
      split at e
      · rename_i ds hd
        simp only [Option.some.injEq] at e; subst e
        simp only [rnL, h b c hc, rnL_back h hd]
      · cases e
    · cases e

theorem rnC_back {ρ τ : Nat → Option Nat} (h : ∀ b c, ρ b = some c → τ c = some b) : ∀ {cs ds : List C1}, rnC ρ cs = some ds → rnC τ ds = some cs
  | [], ds, e => by simp only [rnC, Option.some.injEq] at e; subst e; rfl
  | .s x :: cs, ds, e => by
    obtain ⟨r, hr, rfl⟩ := Option.map_eq_some_iff.1 e
    simp only [rnC, rnC_back h hr, Option.map_some]
  | .i k n :: cs, ds, e => by
    obtain ⟨r, hr, rfl⟩ := Option.map_eq_some_iff.1 e
    simp only [rnC, rnC_back h hr, Option.map_some]
  | .o b :: cs, ds, e => by
    simp only [rnC] at e
    split at e
    · rename_i c hc
      obtain ⟨r, hr, rfl⟩ := Option.map_eq_some_iff.1 e
      simp only [rnC, h _ _ hc, rnC_back h hr, Option.map_some]
    · cases e

theorem rnP_back {ρ τ : Nat → Option Nat} (h : ∀ b c, ρ b = some c → τ c = some b) {p q : Part D.τ} (e : rnP D ρ p = some q) : rnP D τ q = some p := by
  cases p <;> simp only [rnP] at e <;> first
    | (cases e; rfl)
    | (cases e; done)
    | (split at e
       · rename_i c hc
         simp only [Option.some.injEq] at e
         subst e
         first
           | (simp only [rnP, h _ _ hc])
           | (simp only [rnP, rnC_back h hc])
           | (simp only [rnP, rnL_back h hc])
       · cases e)

theorem rnPs_back {ρ τ : Nat → Option Nat} (h : ∀ b c, ρ b = some c → τ c = some b) : ∀ {ps qs : List (Part D.τ)}, rnPs D ρ ps = some qs → rnPs D τ qs = some ps
  | [], qs, e => by simp only [rnPs, Option.some.injEq] at e; subst e; rfl
  | p :: ps, qs, e => by
    simp only [rnPs] at e
    split at e
    · rename_i c hc
      split at e
      · rename_i ds hd
        simp only [Option.some.injEq] at e; subst e
        simp only [rnPs, rnP_back h hc, rnPs_back h hd]
      · cases e
    · cases e

theorem rnB_back {ρ τ : Nat → Option Nat} (h : ∀ b c, ρ b = some c → τ c = some b) {p q : BoxSt D.τ} (e : rnB D ρ p = some q) : rnB D τ q = some p := by
  unfold rnB at e
  split at e
  · cases e
  · cases e; rfl
  · split at e
    · rename_i qs hq
      cases e
      simp only [rnB, rnPs_back h hq]
    · cases e
  · split at e
    · rename_i qs hq
      cases e
      simp only [rnB, rnP_back h hq]
    · cases e
  · cases e; rfl
  · split at e
    · rename_i qs hq
      cases e
      simp only [rnB, rnPs_back h hq]
    · cases e

theorem rnBs_back {ρ τ : Nat → Option Nat} (h : ∀ b c, ρ b = some c → τ c = some b) : ∀ {ps qs : List (BoxSt D.τ)}, rnBs D ρ ps = some qs → rnBs D τ qs = some ps
  | [], qs, e => by simp only [rnBs, Option.some.injEq] at e; subst e; rfl
  | p :: ps, qs, e => by
    simp only [rnBs] at e
    split at e
    · rename_i c hc
      split at e
      · rename_i ds hd
        simp only [Option.some.injEq] at e; subst e
        simp only [rnBs, rnB_back h hc, rnBs_back h hd]
      · cases e
    · cases e

theorem rnBs_append {ρ : Nat → Option Nat} : ∀ {ps qs us vs : List (BoxSt D.τ)}, rnBs D ρ ps = some us → rnBs D ρ qs = some vs → rnBs D ρ (ps ++ qs) = some (us ++ vs)
  | [], _, us, vs, h, k => by simp only [rnBs, Option.some.injEq] at h; subst h; exact k
  | p :: ps, qs, us, vs, h, k => by
    simp only [rnBs] at h
    split at h
    · rename_i c hc
      split at h
      · rename_i ds hd
        simp only [Option.some.injEq] at h; subst h
        simp only [List.cons_append, rnBs, hc, rnBs_append hd k]
      · cases h
    · cases h

theorem zipU_append {τ : Type} : ∀ (is : List Nat) (ss : List (BoxSt τ)) (js : List Nat) (us : List (BoxSt τ)), is.length = ss.length → zipU (is ++ js) (ss ++ us) = zipU is ss ++ zipU js us
  | [], [], _, _, _ => rfl
  | [], _ :: _, _, _, h => by simp at h
  | _ :: _, [], _, _, h => by simp at h
  | i :: is, s :: ss, js, us, h => by simp only [List.cons_append, zipU, zipU_append is ss js us (by simpa using h)]

/-- Boxes that are told as they were. -/
theorem bx_id : ∀ (is : List Nat) (S : St D.τ), S.bx (zipU is (is.map S.box)) = S
  | [], _ => rfl
  | i :: is, S => by
    have hS : S.upd (.box i (S.box i)) = S := by
      unfold St.upd
      cases S with
      | mk slot box nt np =>
        simp only [St.mk.injEq, true_and, and_true]
        funext j
        by_cases hj : j = i
        · subst hj; rw [Nat.beq_refl]; rfl
        · rw [beq_ne hj]; rfl
    show (S.upd (.box i (S.box i))).bx (zipU is (is.map S.box)) = S
    rw [hS]
    exact bx_id is S

theorem bx_app2 : ∀ (us vs : List (Nat × BoxSt D.τ)) (S : St D.τ), S.bx (us ++ vs) = (S.bx us).bx vs
  | [], _, _ => rfl
  | u :: us, vs, S => by
    show (S.upd (.box u.1 u.2)).bx (us ++ vs) = _
    rw [bx_app2 us vs]
    rfl

theorem rdA_sound {nid : Nat} {modes : List Bool} {F : List (BoxSt D.τ) → List (A0 D.τ) → Option (AV D.τ × List (BoxSt D.τ) × List Prop)} {f : FuncId} (hF : OpOK P D f (withNew F)) {as : List (AV D.τ)} {vs : List Value} {ts : List TypeId} {S : St D.τ} {r : Res D.τ} {l : List Ref}
    (h : (oRdA P D nid modes F as ts).run S = some (r, l)) (hps : ∀ p ∈ r.ps, p) {M : Mem} {w0 : World} {σ : Loc} {ν : Nat → Value} {a : Act} {w : World} (hR : RR D M w0 σ ν S w) (hA : RA D M w0 σ ν S a) (hvs : AVsRel (S.env D M w0 σ ν) as vs) :
    UpTo P (Lands M w0 S a r) ((callFunc f vs.toArray).run P w) := by
  unfold oRdA at h
  obtain ⟨ids, l2, h⟩ := reach_run h
  cases hnd : nodupB ids <;> simp only [hnd, cond_true, cond_false, run_fail] at h
  obtain ⟨l3, h⟩ := rdBs_run h
  split at h
  · rename_i bs hbs
    obtain ⟨hst, hfoot, hren⟩ := start_op hR (nodupB_spec hnd) hbs (σc := ⟨fun i => σ (ids.getD i 0), σ.zw, σ.zm, fun i => σ.φ (ids.getD i 0)⟩) (νc := fun i => ν (ids.getD i 0)) rfl rfl
    obtain ⟨xs, l4, h, hxs⟩ := passAs_sound hR hfoot rfl rfl hren h hvs
    split at h
    · rename_i r0 ns ps hFx
      split at h
      · rename_i r' hr'
        split at h
        · rename_i us hus
          obtain ⟨⟨l5, h⟩, hun⟩ := rdUn_run h
          simp only [run_ret] at h
          obtain ⟨rfl, _⟩ := h
          have hbl : bs.length = ids.length := by
            have := (rnBs_get hbs).1
            rwa [List.length_map] at this
          have hlen : (bs ++ ns).length - ids.length = ns.length := by rw [List.length_append]; omega
          have hFw : withNew F bs xs = some (r0, bs ++ ns, ps) := by unfold withNew; rw [hFx]
          obtain ⟨g, gargs, hrun, hc⟩ := hF bs xs r0 _ ps hFw hps w _ _ _ hst hxs
          rw [hrun]
          have hback : rnBs D (fun i => (ids ++ newIds nid ns.length)[i]?) bs = some (ids.map S.box) := by
            refine rnBs_back (fun b c hbc => ?_) hbs
            have := idx_spec hbc
            have hlt := (List.getElem?_eq_some_iff.1 this).1
            rw [List.getElem?_append_left hlt]
            exact this
          refine hc.mono fun en w' ⟨v, hen, σ', ν', hR', hv⟩ => ⟨v, hen, ?_⟩
          have hL := lands_op (js := ids ++ newIds nid ns.length) (us := ids.map S.box ++ us) (qs := ps) hR hA (nodupB_spec hnd) hbs (by rw [hlen]) (by rw [List.length_append]; omega) (by rw [hlen]; exact hun) hr' (rnBs_append hback hus) hR' hv
          rw [zipU_append _ _ _ _ (by rw [List.length_map])] at hL
          unfold Lands at hL ⊢
          simp only [bx_app2, bx_id] at hL
          exact hL
        · simp at h
      · simp at h
    · simp at h
  · simp at h

/-- A call with described arguments does what is known of the callee. -/
theorem callA_sound {Γ : Gam D} (hΓ : GamOK P D Γ) {nid : Nat} {f : FuncId} {as : List (AV D.τ)} {vs : List Value} {ts : List TypeId} {S : St D.τ} {r : Res D.τ} {l : List Ref}
    (h : (callA P D Γ nid f as ts).run S = some (r, l)) (hps : ∀ p ∈ r.ps, p) {M : Mem} {w0 : World} {σ : Loc} {ν : Nat → Value} {a : Act} {w : World} (hR : RR D M w0 σ ν S w) (hA : RA D M w0 σ ν S a) (hvs : AVsRel (S.env D M w0 σ ν) as vs) :
    UpTo P (Lands M w0 S a r) ((callFunc f vs.toArray).run P w) := by
  unfold callA at h
  split at h
  · rename_i F hF
    obtain ⟨xs, l2, h, hxs⟩ := lendAs_sound hR foot_nil h hvs
    split at h
    · rename_i r' ps hr'
      split at h
      · rename_i x ds hds
        obtain ⟨⟨l3, h⟩, hun⟩ := rdUn_run h
        simp only [run_ret] at h
        obtain ⟨rfl, _⟩ := h
        have hFn : FnOK P D f F := hΓ.get hF
        obtain ⟨n, hrun, hn⟩ := hFn xs r' ps hr' hps w _ hR.globAt (hxs (cenv w) rfl rfl (fun g hg => hR.zk g hg) (fun _ => ⟨rfl, fun _ h => h⟩))
        rw [hrun]
        cases n <;> simp only at hn <;> simp only [UpTo]
        case value v => exact lands_call hR hA hun hds hn (Below.refl _ _)
        case enter g vs => exact hn.mono fun e w' ⟨v, he, hv, hb⟩ => ⟨v, he, lands_call hR hA hun hds hv hb⟩
      · simp at h
    · simp at h
  · rename_i F hF
    obtain ⟨xs, l2, h, hxs⟩ := lendAs_sound hR foot_nil h hvs
    split at h
    · rename_i r' ps hr'
      split at h
      · rename_i b e k il hds
        cases hb : Nat.beq b nid <;> simp only [hb, cond_true, cond_false, run_fail] at h
        have := Nat.eq_of_beq_eq_true hb
        subst this
        obtain ⟨⟨l3, h⟩, hun⟩ := rdUn_run h
        simp only [run_ret] at h
        obtain ⟨rfl, _⟩ := h
        have hFn : FnOK P D f F := hΓ.get hF
        obtain ⟨n, hrun, hn⟩ := hFn xs r' ps hr' hps w _ hR.globAt (hxs (cenv w) rfl rfl (fun g hg => hR.zk g hg) (fun _ => ⟨rfl, fun _ h => h⟩))
        rw [hrun]
        cases n <;> simp only at hn <;> simp only [UpTo]
        case value v => exact lands_fz (e := e) (lands_call (nid := b) (ds := [(e, k, il)]) hR hA hun hds hn (Below.refl _ _))
        case enter g vs => exact hn.mono fun e' w' ⟨v, he, hv, hb⟩ => ⟨v, he, lands_fz (e := e) (lands_call (nid := b) (ds := [(e, k, il)]) hR hA hun hds hv hb)⟩
      · simp at h
    · simp at h
  · rename_i modes F hF
    have hFn : OpOK P D f F := hΓ.get hF
    exact opA_sound hFn h hps hR hA hvs
  · rename_i modes F hF
    have hFn : OpOK P D f (withNew F) := hΓ.get hF
    exact rdA_sound hFn h hps hR hA hvs
  · simp at h

theorem sound_call {Γ : Gam D} (hΓ : GamOK P D Γ) (nid : Nat) (f : FuncId) (args : Array Operand) (ts : List TypeId) :
    Sound P D (oCall P D Γ nid f args.toList ts) (fun ρ => callFunc f (args.map ρ)) := by
  intro S r l h hps M w0 a w ⟨σ, ν, hR, hA⟩
  unfold oCall at h
  obtain ⟨as, l1, has, h⟩ := rdAs_run h
  have := callA_sound hΓ h hps hR hA (evalAs_rel hA has)
  have he : (args.toList.map a.eval).toArray = args.map a.eval := by apply Array.ext'; simp
  rw [he] at this
  exact this

theorem run_invokeOp (ρ : Operand → Value) (c : Call) (x : Operand) (name : String) (ty : TypeId) (w : World) (hc : c.callee = .invoke x name) :
    (do let d ← resolve ρ c ty; invoke d.target d.args : Sem Next).run P w = (callMethod (ρ x) name (c.args.map ρ)).run P w := by
  have h0 : (#[ρ x] ++ c.args.map ρ)[0]? = some (ρ x) := by simp [Array.getElem?_append]
  have h1 : (#[ρ x] ++ c.args.map ρ).extract 1 (#[ρ x] ++ c.args.map ρ).size = c.args.map ρ := by
    apply Array.ext'
    simp only [Array.toList_extract, Array.toList_append, List.extract_eq_take_drop, Array.size_append]
    simp
    exact List.take_of_length_le (by simp)
  simp only [resolve, hc, Sem.run_bind, Sem.run_pure, Result.andThen_ok, invoke, h0, h1]

theorem run_valueOp (ρ : Operand → Value) (c : Call) (x : Operand) (ty : TypeId) (w : World) (f : FuncId) (cap : Array Value) (hc : c.callee = .value x) (hx : ρ x = .func (.func f) #[] cap) :
    (do let d ← resolve ρ c ty; invoke d.target d.args : Sem Next).run P w = (callFunc f (c.args.map ρ ++ cap)).run P w := by
  simp [resolve, hc, hx, Deferred.ofValue, invoke]

theorem methOf_spec {t : TypeId} {name : String} {f : FuncId} {ptr : Bool} (h : methOf P t name = some (f, ptr)) : ∃ i m, P.info? t = some i ∧ i.methods.find? (·.name == name) = some m ∧ m.path = #[] ∧ m.func = some (f, ptr) := by
  unfold methOf at h
  split at h
  · rename_i i hi
    split at h
    · rename_i m hm
      split at h
      · rename_i hp
        exact ⟨i, m, hi, hm, by rw [← Array.toList_inj]; exact hp, h⟩
      · cases h
    · cases h
  · cases h

theorem run_wrapNil {tys : Array TypeId} {t : TypeId} {b : Addr} {s m : ByteArray} {w : World} : (Builtin.ssaWrapNilChk_ tys t #[.pointer (some b), .string s, .string m]).run P w = .ok (.pointer (some b)) w := rfl

theorem run_method {t e : TypeId} {name : String} {f : FuncId} {ptr : Bool} {b : Addr} {w : World} {u : Value} (n : Nat) (h : methOf P t name = some (f, ptr)) (ht : P.underlying t = some (.pointer e))
    (hu : (ptr = true ∧ u = .pointer (some b)) ∨ (ptr = false ∧ (loadVar e b).run P w = .ok u w)) : (method (n + 1) t (.pointer (some b)) name).run P w = .ok (f, u) w := by
  obtain ⟨i, m, hi, hm, hp, hf⟩ := methOf_spec h
  unfold method
  rcases hu with ⟨rfl, rfl⟩ | ⟨rfl, hu⟩
  · simp [typeInfo, hi, hm, hp, follow, hf, receiverAt, run_underlying ht, Place.get]
  · simp [typeInfo, hi, hm, hp, follow, hf, receiverAt, run_underlying ht, Place.get, run_wrapNil, strVal, asAddr, hu]

theorem AVsRel.append {E : Env} : ∀ {as bs : List (AV D.τ)} {vs us : List Value}, AVsRel E as vs → AVsRel E bs us → AVsRel E (as ++ bs) (vs ++ us)
  | [], _, _, _, h, k => by cases h; exact k
  | _ :: _, _, _, _, ⟨v, ws, e, h1, h2⟩, k => ⟨v, ws ++ _, by rw [e]; rfl, h1, AVsRel.append h2 k⟩

theorem sound_invoke {Γ : Gam D} (hΓ : GamOK P D Γ) (nid : Nat) (x : Operand) (name : String) (args : Array Operand) (ts : List TypeId) :
    Sound P D (oInvoke P D Γ nid x name args.toList ts) (fun ρ => callMethod (ρ x) name (args.map ρ)) := by
  intro S r l h hps M w0 a w ⟨σ, ν, hR, hA⟩
  unfold oInvoke at h
  obtain ⟨av, l0, hav, h⟩ := rdA_run h
  split at h
  case h_2 => simp at h
  rename_i t b off
  obtain ⟨_, hal, hxv⟩ := evalA_rel hA hav
  simp only [List.cons.injEq, and_true] at hxv
  split at h
  case h_2 => simp at h
  rename_i f ptr hm
  obtain ⟨as, l1, has, h⟩ := rdAs_run h
  have hvs := evalAs_rel hA has
  have key : ∀ {a0 : AV D.τ} {t0 : TypeId} {u : Value} {l' : List Ref}, (callA P D Γ nid f (a0 :: as) (t0 :: ts)).run S = some (r, l') → AVRel D (S.env D M w0 σ ν) a0 u →
      (method (P.types.size + Made.depth) t (.pointer (some ⟨σ b, off, none⟩)) name).run P w = .ok (f, u) w → UpTo P (Lands M w0 S a r) ((callMethod (a.eval x) name (args.map a.eval)).run P w) := by
    intro a0 t0 u l' h1 h2 h3
    have := callA_sound hΓ h1 hps hR hA (vs := u :: args.toList.map a.eval) ⟨u, _, rfl, h2, hvs⟩
    rw [hxv]
    simp only [callMethod, Sem.run_bind, run_program, Result.andThen_ok]
    rw [show (S.env D M w0 σ ν).σ b = σ b from rfl, h3]
    simp only [Result.andThen_ok]
    have he : (u :: args.toList.map a.eval).toArray = #[u] ++ args.map a.eval := by apply Array.ext'; simp
    rw [← he]
    exact this
  unfold recvOf at h
  split at h
  case h_2 => simp at h
  rename_i e ht
  cases ptr <;> simp only [cond_true, cond_false] at h
  · split at h
    case h_2 => simp at h
    rename_i n hsz
    obtain ⟨l3, h⟩ := box_run h
    split at h
    case h_2 => simp at h
    rename_i ty ps hbx
    split at h
    case h_2 => simp at h
    rename_i p1 m p3 hsp
    split at h
    case h_2 => simp at h
    rename_i a0 ha0
    have hb := hR.boxes b
    rw [hbx] at hb
    obtain ⟨cs, hcs, hp⟩ := hb
    obtain ⟨c1, c2, c3, he, k1, k2, r1, r2, r3⟩ := splitP_sound hsp hp
    have hc : ∀ j u, c2[j]? = some u → w.cell? ((⟨σ b, off, none⟩ : Addr).add j) = some u := by
      intro j u hj
      have := cells_at hcs he j u hj
      rw [k1] at this
      exact this
    obtain ⟨hr1, hr2⟩ := run_loadVarB (P := P) (t := e) (a := ⟨σ b, off, none⟩) (cs := c2) (by rw [k2]; exact hsz) hc
    rcases mkAV_rel ha0 r2 with ⟨hg, hv⟩ | ⟨hg, u, hd, hv⟩
    · exact key h hv (run_method _ hm ht (.inr ⟨rfl, hr1 hg⟩))
    · exact key h hv (run_method _ hm ht (.inr ⟨rfl, hr2 hg u hd⟩))
  · exact key h ⟨rfl, hal, rfl⟩ (run_method _ hm ht (.inl ⟨rfl, rfl⟩))

theorem sound_callV {Γ : Gam D} (hΓ : GamOK P D Γ) (nid : Nat) (c : Call) (x : Operand) (ty : TypeId) (hc : c.callee = .value x) :
    Sound P D (oCallV P D Γ nid x c.args.toList c.argTypes.toList) (fun ρ => do let d ← resolve ρ c ty; invoke d.target d.args) := by
  intro S r l h hps M w0 a w ⟨σ, ν, hR, hA⟩
  unfold oCallV at h
  obtain ⟨av, l0, hav, h⟩ := rdA_run h
  split at h
  case h_2 => simp at h
  rename_i f bs
  obtain ⟨_, hal, hxv⟩ := evalA_rel hA hav
  simp only [List.cons.injEq, and_true] at hxv
  obtain ⟨as, l1, has, h⟩ := rdAs_run h
  have hvs := evalAs_rel hA has
  have hcap : ∀ bs : List Nat, (∀ b ∈ bs, (S.env D M w0 σ ν).al b) → AVsRel (S.env D M w0 σ ν) (bs.map fun b => (.v (.one (.ref b 0)) : AV D.τ)) (bs.map fun b => Value.pointer (some ⟨(S.env D M w0 σ ν).σ.f b, 0, none⟩)) := by
    intro bs
    induction bs with
    | nil => intro _; rfl
    | cons b bs ih =>
      intro hb
      exact ⟨_, _, rfl, ⟨rfl, hb b (List.mem_cons_self ..), rfl⟩, ih fun c hc => hb c (List.mem_cons_of_mem _ hc)⟩
  have := callA_sound hΓ h hps hR hA (hvs.append (hcap bs hal))
  rw [run_valueOp a.eval c x ty w f _ hc hxv]
  have he : (c.args.toList.map a.eval ++ bs.map fun b => Value.pointer (some ⟨(S.env D M w0 σ ν).σ.f b, 0, none⟩)).toArray = c.args.map a.eval ++ (bs.map fun b => Value.pointer (some ⟨(S.env D M w0 σ ν).σ.f b, 0, none⟩)).toArray := by
    apply Array.ext'; simp
  rw [← he]
  exact this

theorem freeze_world {w : World} {g k : Nat} {cur : Array Value} {e : TypeId} (hg : w.heap[g]? = some (.cells cur e (0, 0))) :
    (w.freeze ⟨g, k, none⟩ 1).heap[g]? = some (.cells cur e (k, k + 1)) ∧ (∀ h, h ≠ g → (w.freeze ⟨g, k, none⟩ 1).heap[h]? = w.heap[h]?) ∧ (w.freeze ⟨g, k, none⟩ 1).heap.size = w.heap.size ∧ (w.freeze ⟨g, k, none⟩ 1).os = w.os ∧ (w.freeze ⟨g, k, none⟩ 1).tape = w.tape ∧ (w.freeze ⟨g, k, none⟩ 1).output = w.output := by
  unfold World.freeze
  rw [if_neg (by decide)]
  refine ⟨?_, fun h hh => ?_, ?_, rfl, rfl, rfl⟩
  · simp only [Array.getElem?_modify, if_true, hg, Option.map_some]
    rfl
  · simp only [Array.getElem?_modify, if_neg (Ne.symm hh)]
  · simp

theorem sound_convert2 (s t : TypeId) (x : Operand) : Sound P D (oConvert2 P D s t x) (fun ρ => do pure (.value (← convert s t (ρ x)))) := by
  intro S r l h hps M w0 a w hRA
  unfold oConvert2 at h
  obtain ⟨av, l0, hav, h⟩ := rdA_run h
  split at h
  · rename_i b
    cases hst : Nat.beq s t <;> simp only [hst, cond_true, cond_false, run_fail] at h
    have := Nat.eq_of_beq_eq_true hst
    subst this
    split at h
    · rename_i e ht
      split at h
      · rename_i he
        obtain ⟨l1, h⟩ := box_run h
        split at h
        · rename_i e' k il hbx
          simp only [run_ret] at h
          obtain ⟨rfl, _⟩ := h
          have hpos : 0 < il.length := hps _ (by simp)
          obtain ⟨σ, ν, hR, hA⟩ := hRA
          obtain ⟨_, hal, h1c, hv⟩ := evalA_rel hA hav
          have hv' : a.eval x = ν b := (List.cons.inj hv).1
          have hb := hR.boxes b
          rw [hbx] at hb
          obtain ⟨n, xs, hown, hp, _⟩ := hb
          simp only [PartRel] at hp
          subst hp
          have hown' : w.ownsL 0 e' 1 (ν b) n (il.map (Value.int k)) := hown
          have hn : il.length = n := by have := hown'.1; simpa using this
          rcases hown'.2 with ⟨_, hz⟩ | ⟨g, cap, cur, hνe, _, hcur, hnc, hcm, hcs, htk⟩
          · omega
          have hblk : Fp D (S.env D M w0 σ ν) b (S.box b) g := by rw [hbx]; show (ν b).ownBlock = _; rw [hνe]; rfl
          have hsh : w.shape? g = some (e', cur.size) := by unfold World.shape?; rw [hcur]
          obtain ⟨f1, f2, f3, f4, f5, f6⟩ := freeze_world (k := cur.size) hcur
          generalize hw' : w.freeze ⟨g, cur.size, none⟩ 1 = w' at f1 f2 f3 f4 f5 f6
          have hrun : (convert s s (a.eval x)).run P w = .ok (a.eval x) w' := by
            rw [hv', hνe, ← hw']
            simp [convert, run_underlying ht, run_underlying he, markStringish, hsh]
          refine upTo_val hrun ?_
          have hle : (S.env D M w0 σ ν).le ((S.upd (.box b .dead)).env D M w0 ⟨σ.f, w', fun h => σ.zm h ∨ h = g, σ.φ⟩ ν) := by
            refine ⟨fun c h => ?_, fun _ _ => rfl, fun _ _ => rfl, rfl, rfl, ⟨rfl, rfl⟩, fun h hz => ⟨.inl hz, ?_⟩⟩
            · show ((S.upd (.box b .dead)).box c).al
              by_cases hc : c = b
              · subst hc; rw [upd_box_same]; trivial
              · rw [upd_box_other S _ hc]; exact h
            · have hne : h ≠ g := fun e => hR.zd b g hblk (e ▸ hz)
              show w'.heap[h]? = _
              rw [f2 h hne]; exact (hR.zk h hz).2
          refine ⟨⟨σ.f, w', fun h => σ.zm h ∨ h = g, σ.φ⟩, ν, ?_, ?_, ?_⟩
          · rw [bx_one]
            refine hR.step hle (fun _ => False) (fun _ h => h.elim) (fun c _ => ?_) (fun _ _ _ h => h.elim) (fun _ _ h => h.elim) ?_ rfl (fun h hz => ?_) (fun _ _ h => h.elim) (fun c h _ hc he' hz => ?_) (fun h hz => ?_)
            · by_cases hc : c = b
              · subst hc; exact .inr (upd_box_same _ _ _)
              · refine .inl ⟨upd_box_other S _ hc, fun h hh => f2 h (fun e => ?_)⟩
                subst e
                exact hR.disj c b h hc hh hblk
            · refine ⟨f4.trans hR.kept.os, f5.trans hR.kept.tape, f6.trans hR.kept.output, by rw [f3]; exact hR.kept.size, fun h hh hm => ?_⟩
              rw [← hR.kept.block h hh hm]
              refine f2 h (fun e => ?_)
              subst e
              rcases hR.lo b h hblk with h1 | h1
              · omega
              · exact hm h1
            · rcases hz with hz | hz
              · have hne : h ≠ g := fun e => hR.zd b g hblk (e ▸ hz)
                exact ⟨by rw [f3]; exact (hR.zk h hz).1, rfl⟩
              · subst hz; exact ⟨by rw [f3]; exact blk_lt hR hblk, rfl⟩
            · rcases hz with hz | hz
              · exact hR.zd c h hc hz
              · subst hz
                by_cases hcb : c = b
                · subst hcb
                  rw [upd_box_same] at he'
                  rw [← he'] at hc
                  cases hc
                · exact hR.disj c b h hcb hc hblk
            · rcases hz with hz | hz
              · exact .inl hz
              · subst hz; exact .inr (hR.lo b h hblk)
          · rw [bx_one]; exact hA.mono hle rfl rfl
          · refine ⟨by rw [hv', hνe]; rfl, _, rfl, some ⟨g, 0, none⟩, cap, by rw [hv', hνe, hn], by omega, hcm, (fun h => by cases h), fun i hi => ⟨g, 0, rfl, fun hz => hz (.inr rfl), ?_⟩⟩
            have := hown'.cells (g := g) (by rw [hνe]; rfl) i _ (getD_ints hi)
            rw [Addr.add_lit] at this
            rw [cell_of_row w g _ cur e' _ hcur] at this
            show w'.cell? _ = _
            rw [cell_of_row w' g _ cur e' _ f1]
            exact this
        · simp at h
      · simp at h
    · simp at h
  · rename_i k l
    split at h
    · rename_i e hs ht
      split at h
      · rename_i he
        have hr := ok1_run h
        subst hr
        obtain ⟨σ, ν, hR, hA⟩ := hRA
        obtain ⟨_, v, hv, ao, cap, rfl, hlc, hcm, hn, hc⟩ := evalA_rel hA hav
        have hv' : a.eval x = .slice ao l.length cap := (List.cons.inj hv).1
        have key : (convert s t (a.eval x)).run P w = .ok (.string ⟨(l.map fun n => UInt8.ofNat n.toNat).toArray⟩) w := by
          rw [hv']
          cases ao with
          | none =>
            have : l = [] := by
              cases l with
              | nil => rfl
              | cons y ys => obtain ⟨b, off, h1, _⟩ := hc 0 (by simp); cases h1
            subst this
            simp [convert, run_underlying hs, run_underlying ht, run_underlying he, Conv.bytesToString]
            rfl
          | some ad =>
            have hl := run_loadCells_list (P := P) w ad (l.map (Value.int .u8)) (fun j v hj => by
              have hjl : j < l.length := by
                rcases Nat.lt_or_ge j l.length with h | h
                · exact h
                · rw [List.getElem?_eq_none (by simpa using h)] at hj; cases hj
              obtain ⟨b, off, h1, h2, h3⟩ := hc j hjl
              cases h1
              have hz : σ.zm b := Classical.not_not.1 h2
              rw [getD_ints hjl] at hj
              cases hj
              rw [Addr.add_lit]
              rw [← h3]
              unfold World.cell?
              simp only [(hR.zk b hz).2]
              rfl)
            rw [List.length_map] at hl
            have hb := run_bytesToString w ad l.length cap l hl
            have hf : ∀ (l : List Int) (s : ByteArray), l.foldl (fun r n => r.push (UInt8.ofNat n.toNat)) s = ⟨s.data ++ (l.map fun n => UInt8.ofNat n.toNat).toArray⟩ := by
              intro l
              induction l with
              | nil => intro s; simp
              | cons y ys ih => intro s; rw [List.foldl_cons, ih]; simp [ByteArray.push]
            rw [hf] at hb
            simp [convert, run_underlying hs, run_underlying ht, run_underlying he, hb]
        exact upTo_val key (lands_pure hR hA ⟨rfl, rfl⟩)
      · simp at h
    · simp at h
  · exact sound_convert s t x S r _ h hps M w0 a w hRA

theorem sound_slice3 (nid : Nat) (t : TypeId) (x y z : Operand) : Sound P D (oSlice3 P D nid t x y z) (fun ρ => do pure (.value (← Instr.sliceAt t (ρ x) none (some (ρ y)) (some (ρ z))))) := by
  intro S r l h hps M w0 a w ⟨σ, ν, hR, hA⟩
  unfold oSlice3 at h
  obtain ⟨av, l0, hav, h⟩ := rdA_run h
  have hx := evalA_rel hA hav
  split at h
  · rename_i b
    obtain ⟨hone, hal, h1c, hv⟩ := hx
    simp only [List.cons.injEq, and_true] at hv
    split at h
    · rename_i e ht
      split at h
      · rename_i hs
        obtain ⟨ay, az, l1, hay, haz, h⟩ := pair_run h
        split at h
        · rename_i k1 b1 q k2 b2 m
          have hy1 : a.eval y = .int k1 q := by simpa [PartRel] using (evalA_rel hA hay).2
          have hz1 : a.eval z = .int k2 m := by simpa [PartRel] using (evalA_rel hA haz).2
          obtain ⟨l2, h⟩ := box_run h
          split at h
          · rename_i hun
            obtain ⟨l3, h⟩ := box_run h
            have hb := hR.boxes b
            split at h
            · rename_i e2 k il hbx
              simp only [run_ret] at h
              obtain ⟨rfl, _⟩ := h
              have h0 : 0 ≤ q := hps _ (by simp)
              have h1 : q ≤ m := hps _ (by simp)
              have h2 : m ≤ il.length := hps _ (by simp)
              rw [hbx] at hb
              obtain ⟨n', xs, hown, hp, _⟩ := hb
              simp only [PartRel] at hp
              subst hp
              have hown' : w.ownsL 0 e2 1 (ν b) n' (il.map (Value.int k)) := hown
              have hn' : il.length = n' := by have := hown'.1; simpa using this
              have hv' : a.eval x = ν b := hv
              obtain ⟨v, hrun, hvo, hvb, hv1⟩ : ∃ v, (Instr.sliceAt t (ν b) none (some (a.eval y)) (some (a.eval z))).run P w = .ok v w ∧ w.ownsL 0 e2 1 v q.toNat ((il.take q.toNat).map (Value.int k)) ∧ v.ownBlock = (ν b).ownBlock ∧ v.oneCell' = true := by
                rcases hown'.2 with ⟨hn, hz⟩ | ⟨g, cap, cur, hνe, _, hcur, hnc, hcm, hcs, htk⟩
                · have hq : q = 0 := by omega
                  have hm : m = 0 := by omega
                  subst hq hm
                  rw [hn, hy1, hz1]
                  refine ⟨.slice none 0 0, ?_, ⟨by simp, .inl ⟨rfl, rfl⟩⟩, rfl, rfl⟩
                  simp [Instr.sliceAt, Instr.slice, run_underlying ht, Instr.sliceBounds, run_sliceBound, run_sizeOfB hs]
                · rw [hνe, hy1, hz1]
                  have em : (m.toNat : Int) = m := Int.toNat_of_nonneg (by omega)
                  have hmc : m ≤ cap := by omega
                  have hm0 : 0 ≤ m := by omega
                  refine ⟨.slice (some ⟨g, 0, none⟩) q.toNat m.toNat, ?_, ⟨by simp; omega, .inr ⟨g, m.toNat, cur, rfl, Nat.zero_le _, hcur, by omega, by omega, by omega, ?_⟩⟩, rfl, rfl⟩
                  · simp [Instr.sliceAt, Instr.slice, run_underlying ht, Instr.sliceBounds, run_sliceBound, run_sizeOfB hs, Addr.add, h0, h1, hmc, hm0, em]
                  · rw [List.map_take, ← htk, Nat.mul_one, Nat.mul_one, List.take_take, Nat.min_eq_left (by omega)]
              refine upTo_val (v := v) (w' := w) ?_ (lands_dyn (old := [b]) (row := none) hR hA hun hvo rfl hv1 (World.grownBy.refl _ _) (by simp) (fun g hg => .inr ⟨b, by simp, ?_⟩))
              · rw [hv']; exact hrun
              · rw [hbx]; show (ν b).ownBlock = some g; rw [← hvb]; exact hg
            · simp at h
          · simp at h
        · simp at h
      · simp at h
    · simp at h
  · simp at h

theorem list3 {α : Type} {a : Array α} {x y z : α} (h : a.toList = [x, y, z]) : a = #[x, y, z] := by rw [← Array.toList_inj]; exact h

/-- **Each operation does what its description says.** -/
theorem aop0_sound {Γ : Gam D} (hΓ : GamOK P D Γ) (nid : Nat) (o : Oper) : Sound P D (aop0 P D Γ nid o) (fun ρ => execOp ρ o) := by
  intro S r l h hps M w0 a w hR
  unfold aop0 at h
  split at h
  · rename_i x e; have := sound_move (P := P) x S r l h hps M w0 a w hR; simpa only [execOp, e] using this
  · rename_i x e; have := sound_move (P := P) x S r l h hps M w0 a w hR; simpa only [execOp, e] using this
  · rename_i c x y e; have := sound_pick (P := P) c x y S r l h hps M w0 a w hR; simpa only [execOp, e] using this
  · rename_i t e; have := sound_alloc (P := P) nid t S r l h hps M w0 a w hR; simpa only [execOp, e] using this
  · rename_i t x e; have := sound_box (P := P) nid t x S r l h hps M w0 a w hR; simpa only [execOp, e] using this
  · rename_i t parts e; have := sound_build (P := P) t parts S r l h hps M w0 a w hR; simpa only [execOp, e] using this
  · rename_i t x e; have := sound_load1 (P := P) t x S r l h hps M w0 a w hR; simpa only [execOp, e] using this
  · rename_i t x y e; have := sound_storeR (P := P) t x y S r l h hps M w0 a w hR; simpa only [execOp, e] using this
  · rename_i x e; exact sound_nilCheck (P := P) o x e S r l h hps M w0 a w hR
  · rename_i s x i e; have := sound_fieldAddrR (P := P) s x i S r l h hps M w0 a w hR; simpa only [execOp, e] using this
  · rename_i s x i e; have := sound_field (P := P) s x i S r l h hps M w0 a w hR; simpa only [execOp, e] using this
  · rename_i t x y e; have := sound_indexAddr1 (P := P) t x y S r l h hps M w0 a w hR; simpa only [execOp, e] using this
  · rename_i t x y e; have := sound_index (P := P) t x y S r l h hps M w0 a w hR; simpa only [execOp, e] using this
  · rename_i x i e; have := sound_extract (P := P) x i S r l h hps M w0 a w hR; simpa only [execOp, e] using this
  · rename_i op t x y yt e; have := sound_bin3 (P := P) op t x y S r l h hps M w0 a w hR; simpa only [execOp, e, valOf] using this
  · rename_i op t x e; have := sound_un (P := P) op x S r l h hps M w0 a w hR; simpa only [execOp, e] using this
  · rename_i s t x e; have := sound_convert2 (P := P) s t x S r l h hps M w0 a w hR; simpa only [execOp, e] using this
  · rename_i t x lo hi e; have := sound_sliceR (P := P) Γ nid o.dst t x lo hi S r l h hps M w0 a w hR; simpa only [execOp, e, Option.map_none] using this
  · rename_i t x y z e; have := sound_slice3 (P := P) nid t x y z S r l h hps M w0 a w hR; simpa only [execOp, e, Option.map_none, Option.map_some] using this
  · rename_i t x e; have := sound_arrPtr (P := P) t x S r l h hps M w0 a w hR; simpa only [execOp, e] using this
  · rename_i t x c e; have := sound_makeSlice (P := P) nid t x c S r l h hps M w0 a w hR; simpa only [execOp, e] using this
  · rename_i t len parts e; have := sound_build1 (P := P) nid t len parts S r l h hps M w0 a w hR; simpa only [execOp, e] using this
  · rename_i t x e; have := sound_makeIface (P := P) t x S r l h hps M w0 a w hR; simpa only [execOp, e] using this
  · rename_i x xt t ok e; have := sound_typeAssert (P := P) x xt t ok S r l h hps M w0 a w hR; simpa only [execOp, e] using this
  · rename_i fn first captured e; have := sound_makeFunc (P := P) fn first captured S r l h hps M w0 a w hR; simpa only [execOp, e] using this
  · rename_i t x e; have := sound_makeMap (P := P) nid t x S r l h hps M w0 a w hR; simpa only [execOp, e] using this
  · rename_i t x y ok e; have := sound_lookup (P := P) Γ nid o.dst t x y ok S r l h hps M w0 a w hR; simpa only [execOp, e] using this
  · rename_i t x y z e; have := sound_update (P := P) t x y z S r l h hps M w0 a w hR; simpa only [execOp, e] using this
  · rename_i c e
    simp only [execOp, e]
    split at h
    · rename_i f hc
      rw [run_callOp a.eval c f o.type w hc rfl]
      exact sound_call hΓ nid f c.args _ S r l h hps M w0 a w hR
    · rename_i hc
      split at h
      · rename_i x t hx ht
        rw [run_builtinOp a.eval c _ o.type w hc]
        have := sound_len1 (P := P) x t o.type S r l h hps M w0 a w hR
        rw [list1 hx, list1 ht]
        simpa only [builtin, valOf, List.map_toArray, List.map_cons, List.map_nil] using this
      · simp at h
    · rename_i hc
      split at h
      · rename_i x y t u hx ht
        rw [run_builtinOp a.eval c _ o.type w hc]
        have := sound_append1 (P := P) nid x y t u o.type S r l h hps M w0 a w hR
        rw [list2 hx, list2 ht]
        simpa only [builtin, valOf, List.map_toArray, List.map_cons, List.map_nil] using this
      · simp at h
    · rename_i hc
      split at h
      · rename_i x y t u hx ht
        rw [run_builtinOp a.eval c _ o.type w hc]
        have := sound_copy2 (P := P) x y t u o.type S r l h hps M w0 a w hR
        rw [list2 hx, list2 ht]
        simpa only [builtin, valOf, List.map_toArray, List.map_cons, List.map_nil] using this
      · simp at h
    · rename_i hc
      split at h
      · rename_i x y hx
        rw [run_builtinOp a.eval c _ o.type w hc]
        have := sound_min (P := P) (ts := c.argTypes) (ty := o.type) x y S r l h hps M w0 a w hR
        rw [list2 hx]
        simpa only [builtin, valOf, List.map_toArray, List.map_cons, List.map_nil] using this
      · rename_i x y z hx
        rw [run_builtinOp a.eval c _ o.type w hc]
        have := sound_min3 (P := P) (ts := c.argTypes) (ty := o.type) x y z S r l h hps M w0 a w hR
        rw [list3 hx]
        simpa only [builtin, valOf, List.map_toArray, List.map_cons, List.map_nil] using this
      · simp at h
    · rename_i hc
      split at h
      · rename_i x y hx
        rw [run_builtinOp a.eval c _ o.type w hc]
        have := sound_max (P := P) (ts := c.argTypes) (ty := o.type) x y S r l h hps M w0 a w hR
        rw [list2 hx]
        simpa only [builtin, valOf, List.map_toArray, List.map_cons, List.map_nil] using this
      · simp at h
    · rename_i hc
      split at h
      · rename_i x t hx ht
        rw [run_builtinOp a.eval c _ o.type w hc]
        have := sound_clear (P := P) x t o.type S r l h hps M w0 a w hR
        rw [list1 hx, list1 ht]
        simpa only [builtin, valOf, List.map_toArray, List.map_cons, List.map_nil] using this
      · simp at h
    · rename_i hc
      split at h
      · rename_i x y t u hx ht
        rw [run_builtinOp a.eval c _ o.type w hc]
        have := sound_delete (P := P) x y t u o.type S r l h hps M w0 a w hR
        rw [list2 hx, list2 ht]
        simpa only [builtin, valOf, List.map_toArray, List.map_cons, List.map_nil] using this
      · simp at h
    · rename_i x hx hc
      exact sound_callV hΓ nid c x o.type hc S r l h hps M w0 a w hR
    · rename_i x name hc
      rw [run_invokeOp a.eval c x name o.type w hc]
      exact sound_invoke hΓ nid x name c.args _ S r l h hps M w0 a w hR
    · simp at h
  · simp at h

theorem map_run {α β : Type} {f : α → β} {S : St D.τ} : ∀ {m : Rd D.τ α} {b : β} {l : List Ref}, (m.map f).run S = some (b, l) → ∃ a, m.run S = some (a, l) ∧ f a = b := by
  intro m
  induction m with
  | ret a => intro b l h; simp only [Rd.map, run_ret] at h; exact ⟨a, by simp [h.2], h.1⟩
  | fail => intro b l h; simp [Rd.map] at h
  | slot t k ih =>
    intro b l h
    simp only [Rd.map, Rd.run] at h
    split at h
    · rename_i x l' hx
      simp only [Option.some.injEq, Prod.mk.injEq] at h
      obtain ⟨rfl, rfl⟩ := h
      obtain ⟨a, h1, h2⟩ := ih _ hx
      exact ⟨a, by simp [Rd.run, h1], h2⟩
    · cases h
  | box c k ih =>
    intro b l h
    simp only [Rd.map, Rd.run] at h
    split at h
    · rename_i x l' hx
      simp only [Option.some.injEq, Prod.mk.injEq] at h
      obtain ⟨rfl, rfl⟩ := h
      obtain ⟨a, h1, h2⟩ := ih _ hx
      exact ⟨a, by simp [Rd.run, h1], h2⟩
    · cases h

theorem lastB_none : ∀ {us : List (Nat × BoxSt D.τ)} {b : Nat} {S : St D.τ}, lastB us b = none → (S.bx us).box b = S.box b
  | [], _, _, _ => rfl
  | (c, s) :: us, b, S, h => by
    simp only [lastB] at h
    split at h
    · cases h
    · rename_i hn
      cases hb : Nat.beq b c <;> simp only [hb, cond_true, cond_false] at h
      · show ((S.upd (.box c s)).bx us).box b = _
        rw [lastB_none hn]
        exact upd_box_other S s (fun e => by subst e; simp at hb)
      · cases h

theorem lastB_some : ∀ {us : List (Nat × BoxSt D.τ)} {b : Nat} {t : BoxSt D.τ} {S : St D.τ}, lastB us b = some t → (S.bx us).box b = t
  | [], _, _, _, h => by cases h
  | (c, s) :: us, b, t, S, h => by
    simp only [lastB] at h
    show ((S.upd (.box c s)).bx us).box b = _
    split at h
    · rename_i u hu
      simp only [Option.some.injEq] at h
      subst h
      exact lastB_some hu
    · rename_i hn
      cases hb : Nat.beq b c <;> simp only [hb, cond_true, cond_false] at h
      · cases h
      · have := Nat.eq_of_beq_eq_true hb
        subst this
        simp only [Option.some.injEq] at h
        subst h
        rw [lastB_none hn, upd_box_same]

theorem bx_append (S : St D.τ) (us vs : List (Nat × BoxSt D.τ)) : S.bx (us ++ vs) = (S.bx us).bx vs := by
  induction us generalizing S with
  | nil => rfl
  | cons u us ih => exact ih (S.upd (.box u.1 u.2))

theorem frz_lands {M : Mem} {w0 : World} {S : St D.τ} {a : Act} {r : Res D.τ} {v : Value} {w : World} (fr : Bool) (h : Lands M w0 S a r v w) : Lands M w0 S a (frz fr r) v w := by
  unfold frz
  cases fr
  · exact h
  simp only [cond_true]
  split
  · rename_i b us ps
    split
    · rename_i e k l hl
      obtain ⟨σ, ν, hR, hA, hv⟩ := h
      have hbox : (S.bx us).box b = .dyn e (.ints k l) := lastB_some hl
      have hb := hR.boxes b
      rw [hbox] at hb
      obtain ⟨n, xs, hown, hp, h1⟩ := hb
      simp only [PartRel] at hp
      subst hp
      unfold Lands
      simp only [bx_append, bx_one]
      refine ⟨⟨σ.f, w, fun g => σ.zm g ∨ Fp D ((S.bx us).env D M w0 σ ν) b ((S.bx us).box b) g, σ.φ⟩, ν, hR.freeze b, hA.mono (freeze_le hR b) rfl rfl, ?_⟩
      obtain ⟨_, _, _, hv3⟩ := hv
      have hv4 : v = ν b := (List.cons.inj hv3).1
      refine ⟨by rw [hv4]; exact h1, v, rfl, ?_⟩
      rw [hv4]
      exact sl_own hown fun g hg hz => hz (.inr (by rw [hbox]; exact hg))
    · rename_i e sh ll hl
      cases hpos : Nat.ble 1 (rsz sh) <;> simp only [cond_true, cond_false]
      · exact h
      obtain ⟨σ, ν, hR, hA, hv⟩ := h
      have hbox : (S.bx us).box b = .dyn e (.lrs sh ll) := lastB_some hl
      have hb := hR.boxes b
      rw [hbox] at hb
      obtain ⟨n, xs, hown, hp, h1⟩ := hb
      unfold Lands
      simp only [bx_append, bx_one]
      refine ⟨⟨σ.f, w, fun g => σ.zm g ∨ Fp D ((S.bx us).env D M w0 σ ν) b ((S.bx us).box b) g, σ.φ⟩, ν, hR.freeze b, hA.mono (freeze_le hR b) rfl rfl, ?_⟩
      obtain ⟨_, _, _, hv3⟩ := hv
      have hv4 : v = ν b := (List.cons.inj hv3).1
      refine ⟨by rw [hv4]; exact h1, v, rfl, ?_⟩
      rw [hv4]
      exact rs_own (E := (S.bx us).env D M w0 σ ν) hown hp (Nat.le_of_ble_eq_true hpos) (freeze_le hR b).z rfl (fun g hg _ => .inr (by rw [hbox]; exact hg))
    · exact h
  · exact h

theorem frz_ps {τ : Type} (fr : Bool) (r : Res τ) : (frz fr r).ps = r.ps := by
  unfold frz
  cases fr
  · rfl
  simp only [cond_true]
  split
  · split
    · rfl
    · rename_i sh _ _; cases Nat.ble 1 (rsz sh) <;> rfl
    · rfl
  · rfl

/-! Rows that are read somewhere and known for ever. -/

inductive FrzR (S : St D.τ) : List (Part D.τ) → List (Part D.τ) → List (Nat × BoxSt D.τ) → Prop where
  | nil : FrzR S [] [] []
  | own {b : Nat} {e : TypeId} {p q : Part D.τ} {ps qs : List (Part D.τ)} {us : List (Nat × BoxSt D.τ)} (hb : S.box b = .dyn e p) (hq : frzOf p = some q) (h : FrzR S ps qs us) : FrzR S (.own b :: ps) (q :: qs) ((b, .dead) :: us)
  | other {p : Part D.τ} {ps qs : List (Part D.τ)} {us : List (Nat × BoxSt D.τ)} (h : FrzR S ps qs us) : FrzR S (p :: ps) (p :: qs) us

theorem FrzR.upd {S : St D.τ} {ps qs : List (Part D.τ)} {us : List (Nat × BoxSt D.τ)} (h : FrzR S ps qs us) {b : Nat} {s : BoxSt D.τ} (hb : b ∉ us.map (·.1)) : FrzR (S.upd (.box b s)) ps qs us := by
  induction h with
  | nil => exact .nil
  | own hc hq _ ih =>
    simp only [List.map_cons, List.mem_cons, not_or] at hb
    exact .own (by rw [upd_box_other S _ (Ne.symm hb.1)]; exact hc) hq (ih hb.2)
  | other _ ih => exact .other (ih hb)

theorem frzPs_run {α : Type} : ∀ {ps : List (Part D.τ)} {k : List (Part D.τ) → List (Nat × BoxSt D.τ) → Rd D.τ α} {S : St D.τ} {r : α} {l : List Ref}, (frzPs ps k).run S = some (r, l) → ∃ qs us l', FrzR S ps qs us ∧ (k qs us).run S = some (r, l')
  | [], k, S, r, l, h => ⟨[], [], l, .nil, h⟩
  | p :: ps, k, S, r, l, h => by
    simp only [frzPs] at h
    unfold frzP at h
    split at h
    · rename_i b
      obtain ⟨l1, h⟩ := box_run h
      split at h
      · rename_i e p1 hb
        split at h
        · rename_i q hq
          obtain ⟨qs, us, l2, h1, h2⟩ := frzPs_run h
          exact ⟨_, _, l2, .own hb hq h1, h2⟩
        · simp at h
      · simp at h
    · obtain ⟨qs, us, l2, h1, h2⟩ := frzPs_run h
      exact ⟨_, _, l2, .other h1, h2⟩

theorem FrzR.sound {M : Mem} {w0 w : World} {ν : Nat → Value} {S : St D.τ} {ps qs : List (Part D.τ)} {us : List (Nat × BoxSt D.τ)} (h : FrzR S ps qs us) : (us.map (·.1)).Nodup → ∀ {σ : Loc} {cs : List Value}, RR D M w0 σ ν S w → PartsRel D (S.env D M w0 σ ν) ps cs →
    ∃ σ', RR D M w0 σ' ν (S.bx us) w ∧ (S.env D M w0 σ ν).le ((S.bx us).env D M w0 σ' ν) ∧ PartsRel D ((S.bx us).env D M w0 σ' ν) qs cs := by
  revert S
  suffices H : ∀ {ps qs : List (Part D.τ)} {us : List (Nat × BoxSt D.τ)} (n : Nat) {S : St D.τ}, ps.length = n → FrzR S ps qs us → (us.map (·.1)).Nodup → ∀ {σ : Loc} {cs : List Value}, RR D M w0 σ ν S w → PartsRel D (S.env D M w0 σ ν) ps cs →
      ∃ σ', RR D M w0 σ' ν (S.bx us) w ∧ (S.env D M w0 σ ν).le ((S.bx us).env D M w0 σ' ν) ∧ PartsRel D ((S.bx us).env D M w0 σ' ν) qs cs by
    intro S h hn σ cs hR hp
    exact H ps.length rfl h hn hR hp
  intro ps qs us n
  induction n generalizing ps qs us with
  | zero =>
    intro S hl h hn σ cs hR hp
    cases h with
    | nil => exact ⟨σ, hR, ⟨fun _ h => h, fun _ _ => rfl, fun _ _ => rfl, rfl, rfl, ⟨rfl, rfl⟩, Loc.le_refl σ⟩, hp⟩
    | own _ _ _ => cases hl
    | other _ => cases hl
  | succ n ih =>
    intro S hl h hn σ cs hR hp
    cases h with
    | nil => cases hl
    | other h =>
      obtain ⟨c1, c2, rfl, h1, h2⟩ := hp
      obtain ⟨σ', q1, q2, q3⟩ := ih (by simpa using hl) h hn hR h2
      exact ⟨σ', q1, q2, c1, c2, rfl, h1.mono q2, q3⟩
    | @own b e p q ps qs us hb hq h =>
      obtain ⟨c1, c2, rfl, ⟨_, h1c, rfl⟩, h2⟩ := hp
      simp only [List.map_cons, List.nodup_cons] at hn
      have hbx := hR.boxes b
      rw [hb] at hbx
      obtain ⟨m, xs, hown, hpr, h1⟩ := hbx
      have hle := freeze_le hR b
      have hq1 : PartRel D ((S.upd (.box b .dead)).env D M w0 ⟨σ.f, w, fun g => σ.zm g ∨ Fp D (S.env D M w0 σ ν) b (S.box b) g, σ.φ⟩ ν) q [ν b] := by
        unfold frzOf at hq
        split at hq
        · rename_i k il
          cases hq
          simp only [PartRel] at hpr
          subst hpr
          exact ⟨ν b, rfl, sl_own hown fun g hg hz => hz (.inr (by rw [hb]; exact hg))⟩
        · rename_i sh ll
          cases hpos : Nat.ble 1 (rsz sh) <;> simp only [hpos, cond_true, cond_false] at hq
          · cases hq
          cases hq
          exact ⟨ν b, rfl, rs_own (E := S.env D M w0 σ ν) hown hpr (Nat.le_of_ble_eq_true hpos) hle.z rfl (fun g hg _ => .inr (by rw [hb]; exact hg))⟩
        · cases hq
      obtain ⟨σ', q1, q2, q3⟩ := ih (by simpa using hl) (h.upd (s := .dead) hn.1) hn.2 (hR.freeze b) (h2.mono hle)
      have q2' : ((S.upd (.box b .dead)).env D M w0 ⟨σ.f, w, fun g => σ.zm g ∨ Fp D (S.env D M w0 σ ν) b (S.box b) g, σ.φ⟩ ν).le (((S.upd (.box b .dead)).bx us).env D M w0 σ' ν) := q2
      refine ⟨σ', q1, ⟨fun c hc => q2'.al c (hle.al c hc), fun c hc => (q2'.σ c (hle.al c hc)).trans (hle.σ c hc), fun c hc => (q2'.ν c (hle.al c hc)).trans (hle.ν c hc), rfl, rfl, ⟨rfl, rfl⟩, fun g hg => ?_⟩, [ν b], c2, rfl, hq1.mono q2', q3⟩
      obtain ⟨z1, z2⟩ := hle.z g hg
      obtain ⟨z3, z4⟩ := q2'.z g z1
      exact ⟨z3, z4.trans z2⟩

theorem frzA_lands {M : Mem} {w0 : World} {S : St D.τ} {a : Act} {r r' : Res D.τ} {v : Value} {w : World} {fr : Bool} {l : List Ref} (hr : (frzA fr r).run S = some (r', l)) (h : Lands M w0 S a r v w) : Lands M w0 S a r' v w ∧ r'.ps = r.ps := by
  unfold frzA at hr
  cases fr
  · simp only [cond_false, run_ret] at hr
    obtain ⟨rfl, _⟩ := hr
    exact ⟨h, rfl⟩
  simp only [cond_true] at hr
  split at hr
  · rename_i p cs
    obtain ⟨qs, us, l1, hf, hr⟩ := frzPs_run hr
    split at hr
    · rename_i q
      cases hnd : nodupB (us.map (·.1)) <;> simp only [hnd, cond_true, cond_false, run_fail, run_ret] at hr
      obtain ⟨rfl, _⟩ := hr
      refine ⟨?_, rfl⟩
      obtain ⟨σ, ν, hR, hA, hv⟩ := h
      have hv' : A0Rel D (S.env D M w0 σ ν) (.one p) v := hv
      obtain ⟨h1, h2⟩ := hv'
      obtain ⟨σ', q1, q2, c1, c2, hc, q3, q4⟩ := hf.sound (nodupB_spec hnd) hR ⟨[v], [], rfl, h2, rfl⟩
      have hc2 : c2 = [] := q4
      subst hc2
      have hc1 : c1 = [v] := by simpa using hc.symm
      subst hc1
      exact ⟨σ', ν, q1, hA.mono q2 (bx_slot us S).1 (bx_slot us S).2, h1, q3⟩
    · simp at hr
  · rename_i ps cs
    obtain ⟨qs, us, l1, hf, hr⟩ := frzPs_run hr
    cases hnd : nodupB (us.map (·.1)) <;> simp only [hnd, cond_true, cond_false, run_fail, run_ret] at hr
    obtain ⟨rfl, _⟩ := hr
    refine ⟨?_, rfl⟩
    obtain ⟨σ, ν, hR, hA, hv⟩ := h
    obtain ⟨vs, rfl, hv'⟩ : A0Rel D (S.env D M w0 σ ν) (.agg ps) v := hv
    obtain ⟨σ', q1, q2, q3⟩ := hf.sound (nodupB_spec hnd) hR hv'
    exact ⟨σ', ν, q1, hA.mono q2 (bx_slot us S).1 (bx_slot us S).2, vs, rfl, q3⟩
  · simp only [run_ret] at hr
    obtain ⟨rfl, _⟩ := hr
    exact ⟨h, rfl⟩

theorem frzA_ps {S : St D.τ} {r r' : Res D.τ} {fr : Bool} {l : List Ref} (hr : (frzA fr r).run S = some (r', l)) : r'.ps = r.ps := by
  unfold frzA at hr
  cases fr
  · simp only [cond_false, run_ret] at hr
    rw [hr.1]
  simp only [cond_true] at hr
  split at hr
  · rename_i p cs
    obtain ⟨qs, us, l1, hf, hr⟩ := frzPs_run hr
    split at hr
    · cases hnd : nodupB (us.map (·.1)) <;> simp only [hnd, cond_true, cond_false, run_fail, run_ret] at hr
      obtain ⟨rfl, _⟩ := hr
      rfl
    · simp at hr
  · rename_i ps cs
    obtain ⟨qs, us, l1, hf, hr⟩ := frzPs_run hr
    cases hnd : nodupB (us.map (·.1)) <;> simp only [hnd, cond_true, cond_false, run_fail, run_ret] at hr
    obtain ⟨rfl, _⟩ := hr
    rfl
  · simp only [run_ret] at hr
    rw [hr.1]

theorem swapOwn_sound {E F : Env} {b : Nat} {q : Part D.τ} (hle : E.le F) (hq : PartRel D F q [E.ν b]) : ∀ {ps qs : List (Part D.τ)} {cs : List Value}, swapOwn b q ps = some qs → PartsRel D E ps cs → PartsRel D F qs cs
  | [], _, _, h, _ => by cases h
  | p :: ps, qs, cs, h, hp => by
    obtain ⟨c1, c2, rfl, h1, h2⟩ := hp
    unfold swapOwn at h
    split at h
    · cases h
    · rename_i c ps' heq
      cases heq
      cases hbc : Nat.beq b c <;> simp only [hbc, cond_true, cond_false] at h
      · split at h
        · rename_i qs' hq'
          cases h
          exact ⟨c1, c2, rfl, h1.mono hle, swapOwn_sound hle hq hq' h2⟩
        · cases h
      · cases h
        have := Nat.eq_of_beq_eq_true hbc
        subst this
        obtain ⟨_, _, rfl⟩ := h1
        exact ⟨_, c2, rfl, hq, h2.mono hle⟩
    · rename_i p' ps' _ heq
      cases heq
      split at h
      · rename_i qs' hq'
        cases h
        exact ⟨c1, c2, rfl, h1.mono hle, swapOwn_sound hle hq hq' h2⟩
      · cases h

theorem swapR_lands {M : Mem} {w0 : World} {S : St D.τ} {a : Act} {r r' : Res D.τ} {v : Value} {w : World} {x : Operand} {l : List Ref} (hr : (swapR x r).run S = some (r', l)) (h : Lands M w0 S a r v w) : Lands M w0 S a r' v w := by
  unfold swapR at hr
  split at hr
  · rename_i b cs
    obtain ⟨l1, hr⟩ := box_run hr
    split at hr
    · rename_i e p hbx
      split at hr
      · rename_i q hq
        obtain ⟨av, l2, hav, hr⟩ := rdA_run hr
        split at hr
        · rename_i c off
          cases hbc : Nat.beq b c <;> simp only [hbc, cond_true, cond_false, run_fail] at hr
          · obtain ⟨l3, hr⟩ := box_run hr
            split at hr
            · rename_i ty ps hcx
              split at hr
              · rename_i qs hqs
                simp only [run_ret] at hr
                obtain ⟨rfl, _⟩ := hr
                have hne : c ≠ b := fun e => by rw [e] at hbc; simp at hbc
                obtain ⟨σ, ν, hR, hA, hv⟩ := h
                have hR : RR D M w0 σ ν S w := hR
                have hA : RA D M w0 σ ν S a := hA
                have hv' : A0Rel D (S.env D M w0 σ ν) (.one (.own b)) v := hv
                obtain ⟨h1, hal, h1c, hvb⟩ := hv'
                have hvν : v = ν b := (List.cons.inj hvb).1
                have hb := hR.boxes b
                rw [hbx] at hb
                obtain ⟨m, xs, hown, hpr, _⟩ := hb
                have hle := freeze_le hR b
                have hR1 := hR.freeze b
                have hq1 : PartRel D ((S.upd (.box b .dead)).env D M w0 ⟨σ.f, w, fun g => σ.zm g ∨ Fp D (S.env D M w0 σ ν) b (S.box b) g, σ.φ⟩ ν) q [ν b] := by
                  unfold frzOf at hq
                  split at hq
                  · rename_i k il
                    cases hq
                    simp only [PartRel] at hpr
                    subst hpr
                    exact ⟨ν b, rfl, sl_own hown fun g hg hz => hz (.inr (by rw [hbx]; exact hg))⟩
                  · rename_i sh ll
                    cases hpos : Nat.ble 1 (rsz sh) <;> simp only [hpos, cond_true, cond_false] at hq
                    · cases hq
                    cases hq
                    exact ⟨ν b, rfl, rs_own (E := S.env D M w0 σ ν) hown hpr (Nat.le_of_ble_eq_true hpos) hle.z rfl (fun g hg _ => .inr (by rw [hbx]; exact hg))⟩
                  · cases hq
                have hcx1 : (S.upd (.box b .dead)).box c = .fixed ty ps := by rw [upd_box_other S _ hne]; exact hcx
                have hc := hR.boxes c
                rw [hcx] at hc
                obtain ⟨cells, hg, hps⟩ := hc
                have hal2 : (BoxSt.fixed ty qs : BoxSt D.τ).al := trivial
                have hle2 := env_upd_box (D := D) (M := M) (w0 := w0) (σ := ⟨σ.f, w, fun g => σ.zm g ∨ Fp D (S.env D M w0 σ ν) b (S.box b) g, σ.φ⟩) (ν := ν) (S := S.upd (.box b .dead)) (b := c) hal2
                have hR2 := hR1.updBox (b := c) (s := .fixed ty qs) hal2 (by rw [hcx1]; rfl) ⟨cells, hg, (swapOwn_sound hle hq1 hqs hps).mono hle2⟩ (World.grownBy.refl _ _) rfl (by rw [hcx1]; rfl)
                refine ⟨_, ν, hR2, (hA.mono hle rfl rfl).mono hle2 rfl rfl, h1, ?_⟩
                rw [hvν]
                exact hq1.mono hle2
              · simp at hr
            · simp at hr
        · simp at hr
      · simp at hr
    · simp at hr
  · simp at hr

theorem swapR_ps {S : St D.τ} {r r' : Res D.τ} {x : Operand} {l : List Ref} (hr : (swapR x r).run S = some (r', l)) : r'.ps = r.ps := by
  unfold swapR at hr
  split at hr
  · rename_i b cs
    obtain ⟨l1, hr⟩ := box_run hr
    split at hr
    · rename_i e p hbx
      split at hr
      · rename_i q hq
        obtain ⟨av, l2, hav, hr⟩ := rdA_run hr
        split at hr
        · rename_i c off
          cases hbc : Nat.beq b c <;> simp only [hbc, cond_true, cond_false, run_fail] at hr
          · obtain ⟨l3, hr⟩ := box_run hr
            split at hr
            · rename_i ty ps hcx
              split at hr
              · rename_i qs hqs
                simp only [run_ret] at hr
                obtain ⟨rfl, _⟩ := hr
                rfl
              · simp at hr
            · simp at hr
        · simp at hr
      · simp at hr
    · simp at hr
  · simp at hr

theorem frz1_lands {M : Mem} {w0 : World} {S : St D.τ} {a : Act} {r r' : Res D.τ} {v : Value} {w : World} {l : List Ref} (hr : (frz1 r).run S = some (r', l)) (h : Lands M w0 S a r v w) : Lands M w0 S a r' v w ∧ r'.ps = r.ps := by
  unfold frz1 at hr
  split at hr
  · rename_i b cs
    obtain ⟨l1, hr⟩ := box_run hr
    split at hr
    · rename_i e x c k n hbx
      cases hbc : Nat.beq b c <;> simp only [hbc, cond_true, cond_false, run_fail] at hr
      · obtain ⟨l3, hr⟩ := box_run hr
        split at hr
        · rename_i ec kd il hcx
          simp only [run_ret] at hr
          obtain ⟨rfl, _⟩ := hr
          refine ⟨?_, rfl⟩
          have hne : b ≠ c := fun e => by rw [e] at hbc; simp at hbc
          obtain ⟨σ, ν, hR, hA, hv⟩ := h
          have hR : RR D M w0 σ ν S w := hR
          have hA : RA D M w0 σ ν S a := hA
          have hv' : A0Rel D (S.env D M w0 σ ν) (.one (.own b)) v := hv
          obtain ⟨h1, hal, h1c, hvb⟩ := hv'
          have hvν : v = ν b := (List.cons.inj hvb).1
          have hc := hR.boxes c
          rw [hcx] at hc
          obtain ⟨mc, xc, hownc, hpc, _⟩ := hc
          simp only [PartRel] at hpc
          subst hpc
          have hb := hR.boxes b
          rw [hbx] at hb
          obtain ⟨m, xs, hown, hpr, _⟩ := hb
          have hpr' : C1sRel (S.env D M w0 σ ν) [.s x, .o c, .i k n] xs := hpr
          obtain ⟨v1, u1, rfl, q1, v2, u2, rfl, q2, v3, u3, rfl, q3, q4⟩ := hpr'
          have q1 : v1 = .string x := q1
          have q2 : v2 = ν c := q2.2.2
          have q3 : v3 = .int k n := q3
          have q4 : u3 = [] := q4
          subst q1 q2 q3 q4
          have hle := freeze_le hR c
          have hR1 := hR.freeze c
          have hbx1 : (S.upd (.box c .dead)).box b = .dyn e (.rec1 [.s x, .o c, .i k n]) := by rw [upd_box_other S _ hne]; exact hbx
          have hsl : SlRel (fun g => ¬ (σ.zm g ∨ Fp D (S.env D M w0 σ ν) c (S.box c) g)) w kd il (ν c) := sl_own hownc fun g hg hz => hz (.inr (by rw [hcx]; exact hg))
          have hlrs : PartRel D ((S.upd (.box c .dead)).env D M w0 ⟨σ.f, w, fun g => σ.zm g ∨ Fp D (S.env D M w0 σ ν) c (S.box c) g, σ.φ⟩ ν) (.lrs [.str, .words kd, .int k] [[.s x, .w il, .i n]]) [.string x, ν c, .int k n] := by
            refine ⟨rfl, fun i r hi => ?_⟩
            have hi0 : i = 0 := by
              have := (List.getElem?_eq_some_iff.1 hi).1
              simp at this
              exact this
            subst hi0
            simp only [List.getElem?_cons_zero, Option.some.injEq] at hi
            subst hi
            exact ⟨[.string x], [ν c, .int k n], rfl, rfl, [ν c], [.int k n], rfl, ⟨ν c, rfl, hsl⟩, [.int k n], [], rfl, rfl, rfl⟩
          have hle2 := freeze_le hR1 b
          have hR2 := hR1.freeze b
          have hown' : w.ownsL 0 e (rsz [.str, .words kd, .int k]) (ν b) m [.string x, ν c, .int k n] := hown
          refine ⟨_, ν, hR2, (hA.mono hle rfl rfl).mono hle2 rfl rfl, h1, v, rfl, ?_⟩
          rw [hvν]
          exact rs_own (E := (S.upd (.box c .dead)).env D M w0 ⟨σ.f, w, fun g => σ.zm g ∨ Fp D (S.env D M w0 σ ν) c (S.box c) g, σ.φ⟩ ν) hown' hlrs (show 1 ≤ 3 by decide) hle2.z rfl (fun g hg _ => .inr (by rw [hbx1]; exact hg))
        · simp at hr
    · simp at hr
  · simp at hr

theorem frzS_lands {M : Mem} {w0 : World} {S : St D.τ} {a : Act} {r r' : Res D.τ} {v : Value} {w : World} {sw fr : Bool} {o : Op} {l : List Ref} (hr : (frzS sw o fr r).run S = some (r', l)) (h : Lands M w0 S a r v w) : Lands M w0 S a r' v w := by
  unfold frzS at hr
  cases sw <;> simp only [cond_true, cond_false] at hr
  · exact (frzA_lands hr h).1
  · split at hr
    · exact swapR_lands hr h
    · exact (frz1_lands hr h).1
    · simp at hr

theorem frz1_ps {S : St D.τ} {r r' : Res D.τ} {l : List Ref} (hr : (frz1 r).run S = some (r', l)) : r'.ps = r.ps := by
  unfold frz1 at hr
  split at hr
  · rename_i b cs
    obtain ⟨l1, hr⟩ := box_run hr
    split at hr
    · rename_i e x c k n hbx
      cases hbc : Nat.beq b c <;> simp only [hbc, cond_true, cond_false, run_fail] at hr
      · obtain ⟨l3, hr⟩ := box_run hr
        split at hr
        · simp only [run_ret] at hr
          obtain ⟨rfl, _⟩ := hr
          rfl
        · simp at hr
    · simp at hr
  · simp at hr

theorem frzS_ps {S : St D.τ} {r r' : Res D.τ} {sw fr : Bool} {o : Op} {l : List Ref} (hr : (frzS sw o fr r).run S = some (r', l)) : r'.ps = r.ps := by
  unfold frzS at hr
  cases sw <;> simp only [cond_true, cond_false] at hr
  · exact frzA_ps hr
  · split at hr
    · exact swapR_ps hr
    · exact frz1_ps hr
    · simp at hr

theorem aop_sound {Γ : Gam D} (hΓ : GamOK P D Γ) (nid : Nat) (o : Oper) : Sound P D (aop P D Γ nid o) (fun ρ => execOp ρ o) := by
  intro S r l h hps M w0 a w hR
  unfold aop at h
  obtain ⟨r1, l1, l2, h1, h⟩ := bind_run h
  obtain ⟨r0, h0, rfl⟩ := map_run h1
  have hp1 : r.ps = (frz (frozenAt D Γ o.dst) r0).ps := frzS_ps h
  exact (aop0_sound hΓ nid o S r0 l1 h0 (by rw [← frz_ps (frozenAt D Γ o.dst) r0, ← hp1]; exact hps) M w0 a w hR).mono fun v w' hl => frzS_lands h (frz_lands _ hl)

end
end Go.Abs

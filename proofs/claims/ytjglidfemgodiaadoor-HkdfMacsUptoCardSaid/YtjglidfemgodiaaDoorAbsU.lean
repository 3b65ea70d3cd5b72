/- An evaluator over descriptions of values: calls, and all operations. -/
import Derived.Test.YtjglidfemgodiaaDoorAbsT
namespace Go.Abs
open Go.RowKit
section
variable {P : Program} {D : Dom}

theorem rowsOf_sound {α : Type} {M : Mem} {w0 : World} {σ : Loc} {ν : Nat → Value} {S : St D.τ} {w : World} (hR : RR D M w0 σ ν S w) {e : TypeId} {k : IntKind} {q : Part D.τ} {f : List (List Int) → Rd D.τ α} {r : α} {l : List Ref} {v : Value}
    (h : (rowsOf D e k q f).run S = some (r, l)) (hp : PartRel D (S.env D M w0 σ ν) q [v]) :
    ∃ ll l', (f ll).run S = some (r, l') ∧ ∃ ao cap us, v = .slice ao us.length cap ∧ WsRel (S.env D M w0 σ ν) k ll us ∧ (ao = none → us = [] ∧ cap = 0) ∧ ∀ ad, ao = some ad → ∀ j u, us[j]? = some u → w.cell? (ad.add j) = some u := by
  unfold rowsOf at h
  split at h
  · simp only [PartRel, List.cons.injEq, and_true] at hp
    exact ⟨[], l, h, none, 0, [], hp, ⟨rfl, fun i u h => by simp at h⟩, fun _ => ⟨rfl, rfl⟩, fun ad h => by cases h⟩
  · rename_i k' ll
    split at h
    · rename_i hk
      subst hk
      obtain ⟨v', e1, ao, cap, e2, h1, h2, h3, h4⟩ := hp
      simp only [List.cons.injEq, and_true] at e1
      subst e1
      cases ao with
      | none =>
        have hc := h3 rfl
        have hl : ll = [] := List.eq_nil_of_length_eq_zero (by omega)
        subst hl
        subst hc
        exact ⟨[], l, h, none, 0, [], e2, ⟨rfl, fun i u h => by simp at h⟩, fun _ => ⟨rfl, rfl⟩, fun ad h => by cases h⟩
      | some ad =>
        have key : ∀ i, i < ll.length → ∃ u, w.cell? (ad.add i) = some u ∧ ∃ M' W', Base (S.env D M w0 σ ν) M' W' ∧ SlRel M' W' k (ll.getD i []) u := by
          intro i hi
          obtain ⟨b, off, u, q1, q2, q3, q4⟩ := h4 i hi
          simp only [Option.some.injEq] at q1
          subst q1
          refine ⟨u, ?_, _, _, .inl ⟨rfl, rfl⟩, q4⟩
          rw [Addr.add_lit, ← q3]
          exact World.cell?_of_block (hR.kept.block b (World.block_lt_of_cell? _ _ q3) q2)
        refine ⟨ll, l, h, some ad, cap, (List.range ll.length).map (fun i => (w.cell? (ad.add i)).getD undef), by rw [e2]; simp, ⟨by simp, fun i u hu => ?_⟩, (fun h => by cases h), fun ad' e j u hu => ?_⟩
        · have hi : i < ll.length := by have := (List.getElem?_eq_some_iff.1 hu).1; simpa using this
          obtain ⟨u', q1, q2⟩ := key i hi
          simp only [List.getElem?_map, List.getElem?_range hi, Option.map_some, q1, Option.getD_some, Option.some.injEq] at hu
          subst hu
          exact q2
        · simp only [Option.some.injEq] at e
          subst e
          have hi : j < ll.length := by have := (List.getElem?_eq_some_iff.1 hu).1; simpa using this
          obtain ⟨u', q1, q2⟩ := key j hi
          simp only [List.getElem?_map, List.getElem?_range hi, Option.map_some, q1, Option.getD_some, Option.some.injEq] at hu
          subst hu
          exact q1
    · simp at h
  · rename_i c
    obtain ⟨l1, h⟩ := box_run h
    split at h
    · rename_i e' k' ll hbx
      cases he : Nat.beq e e' <;> simp only [he, cond_true, cond_false, run_fail] at h
      split at h
      · rename_i hk
        subst hk
        have hb := hR.boxes c
        rw [hbx] at hb
        obtain ⟨n, xs, hown, ⟨hxl, hxs⟩, _⟩ := hb
        have hown' : w.ownsL 0 e' 1 (ν c) n xs := hown
        have hv : v = ν c := (List.cons.inj hp.2.2).1
        have hn : xs.length = n := by have := hown'.1; simpa using this
        rcases hown'.2 with ⟨hνe, h0⟩ | ⟨g, cap, cur, hνe, _, hcur, hnc, hcm, hcs, htk⟩
        · have hx : xs = [] := List.eq_nil_of_length_eq_zero (by omega)
          subst hx
          exact ⟨ll, _, h, none, 0, [], by rw [hv, hνe]; rfl, ⟨hxl, fun i u h => by simp at h⟩, fun _ => ⟨rfl, rfl⟩, fun ad h => by cases h⟩
        · refine ⟨ll, _, h, some ⟨g, 0, none⟩, cap, xs, by rw [hv, hνe, hn], ⟨hxl, hxs⟩, (fun h => by cases h), fun ad e j u hu => ?_⟩
          simp only [Option.some.injEq] at e
          subst e
          exact hown'.cells (g := g) (by rw [hνe]; rfl) j u hu
      · simp at h
    · simp at h
  · simp at h

theorem sound_append2 (nid : Nat) (x y : Operand) (t u ty : TypeId) : Sound P D (oAppend2 P D nid x y t u) (fun ρ => valOf (Builtin.append_ #[t, u] ty #[ρ x, ρ y])) := by
  intro S r l h hps M w0 a w hRA
  unfold oAppend2 at h
  split at h
  · rename_i e ht
    split at h
    · rename_i k hk
      split at h
      · rename_i hs
        obtain ⟨σ, ν, hR, hA⟩ := hRA
        cases hb : (Nat.beq t u && zeroSl P e) <;> simp only [hb, cond_true, cond_false, run_fail] at h
        simp only [Bool.and_eq_true] at hb
        have htu := Nat.eq_of_beq_eq_true hb.1
        subst htu
        obtain ⟨av, l0, hav, h⟩ := rdA_run h
        have hx := evalA_rel hA hav
        split at h
        · rename_i p
          obtain ⟨bv, l1, hbv, h⟩ := rdA_run h
          have hy := evalA_rel hA hbv
          split at h
          · rename_i q
            obtain ⟨ll, l2, h, ao, cap, us, hye, hus, hnil, hnews⟩ := rowsOf_sound hR h hy.2
            obtain ⟨l3, h⟩ := box_run h
            split at h
            · rename_i hun
              split at h
              · simp only [run_ret] at h
                obtain ⟨rfl, _⟩ := h
                have hxv : a.eval x = .slice none 0 0 := by have := hx.2; simpa [PartRel] using this
                have b2 : ll.length * bytesOfT P e ≤ 140737488355328 := hps _ (by simp)
                have b1 : ll.length ≤ 9223372036854775807 := hps _ (by simp)
                obtain ⟨v', w', hr, ho, hg, hgo⟩ := append_runV (P := P) (ty := ty) (w := w) (v := .slice none 0 0) (n := 0) (xs := []) (us := us) (cap' := cap) ht hs hb.2 (World.ownsL_nil _ _ _ _) hus.one hnil hnews (by rw [hus.1]; omega) (by rw [hus.1]; simpa using b2)
                simp only [List.nil_append, Nat.zero_add] at ho
                refine upTo_val (v := v') (w' := w') (by rw [hxv, hye]; exact hr) (lands_dyn (old := []) (row := none) hR hA hun ho ⟨hus.1, hus.2⟩ (ownsL_one ho) hg (by simp) (fun g h' => .inl ?_))
                rcases hgo g h' with h'' | h''
                · exact h''
                · simp [Value.ownBlock] at h''
              · rename_i b _ _ _
                obtain ⟨l4, h⟩ := box_run h
                have hbb := hR.boxes b
                split at h
                · rename_i e' k' xl hbx
                  split at h
                  · rename_i hk'
                    subst hk'
                    generalize hbe : Nat.beq e e' = be at h
                    cases be <;> simp only [cond_true, cond_false, run_fail] at h
                    have hee := Nat.eq_of_beq_eq_true hbe
                    subst hee
                    simp only [run_ret] at h
                    obtain ⟨rfl, _⟩ := h
                    have b2 : (xl.length + ll.length) * bytesOfT P e ≤ 140737488355328 := hps _ (by simp)
                    have b1 : xl.length + ll.length ≤ 9223372036854775807 := hps _ (by simp)
                    rw [hbx] at hbb
                    obtain ⟨n, xs, hown, hxs, _⟩ := hbb
                    have hn : xs.length = n := by have := hown.1; simpa using this
                    subst hn
                    have hxv : a.eval x = ν b := by
                      have h9 : [a.eval x] = [ν b] := hx.2.2.2
                      simpa using h9
                    obtain ⟨v', w', hr, ho, hg, hgo⟩ := append_runV (P := P) (ty := ty) (w := w) (v := ν b) (us := us) (cap' := cap) ht hs hb.2 hown hus.one hnil hnews (by rw [hxs.1, hus.1]; exact b1) (by rw [hxs.1, hus.1]; exact b2)
                    have hblk : ∀ g, (ν b).ownBlock = some g → ∃ b' ∈ [b], blk D (S.env D M w0 σ ν) b' (S.box b') = some g := fun g h' => ⟨b, by simp, by rw [hbx]; exact h'⟩
                    have hws := WsRel.append (E := S.env D M w0 σ ν) (k := k) ⟨hxs.1, hxs.2⟩ hus
                    refine upTo_val (v := v') (w' := w') (by rw [hxv, hye]; exact hr) (lands_dyn (old := [b]) (row := (ν b).ownBlock) hR hA hun ho ⟨hws.1, hws.2⟩ (ownsL_one ho) hg hblk (fun g h' => ?_))
                    rcases hgo g h' with h'' | h''
                    · exact .inl h''
                    · exact .inr (hblk g h'')
                  · simp at h
                · simp at h
              · simp at h
            · simp at h
          · simp at h
        · simp at h
      · simp at h
    · exact sound_append nid x y t u ty S r l h hps M w0 a w hRA
  · simp at h

theorem run_ptr_nil {t e : TypeId} {ao : Option Addr} {w : World} (ht : P.underlying t = some (.pointer e)) : (Op.equal t (.pointer ao) (.pointer none)).run P w = .ok ao.isNone w := by
  unfold Op.equal Op.maxDepth Op.equalIn
  cases ao <;> simp [run_underlying ht]

theorem run_eq_ptr {op : BinOp} {t e : TypeId} {x y : Operand} {ao : Option Addr} {w : World} (ht : P.underlying t = some (.pointer e)) (hop : op = .eql ∨ op = .neq) :
    (do eqGuard op t x y (.pointer ao) (.pointer none); binOp op t (.pointer ao) (.pointer none) : Sem Value).run P w = .ok (.bool (bif op == .eql then ao.isNone else !ao.isNone)) w := by
  rcases hop with rfl | rfl
  · simp [eqGuard, binOp, run_ptr_nil ht]
  · simp [eqGuard, binOp, run_ptr_nil ht]
    rfl

theorem sound_bin2 (op : BinOp) (t : TypeId) (x y : Operand) : Sound P D (oBin2 P D op t x y) (fun ρ => valOf (do eqGuard op t x y (ρ x) (ρ y); binOp op t (ρ x) (ρ y))) := by
  intro S r l h hps M w0 a w hRA
  unfold oBin2 at h
  obtain ⟨av, bv, l0, hav, hbv, h⟩ := pair_run h
  split at h
  · obtain ⟨σ, ν, hR, hA⟩ := hRA
    obtain ⟨_, _, hv⟩ := evalA_rel hA hav
    obtain ⟨_, hu⟩ := evalA_rel hA hbv
    simp only [List.cons.injEq, and_true, PartRel] at hv hu
    split at h
    · rename_i ht _
      have hr := ok1_run h
      subst hr
      refine upTo_val (w' := w) ?_ (lands_pure hR hA rel_bool)
      rw [hv, hu]
      exact run_eq_ptr ht (.inl rfl)
    · rename_i ht _
      have hr := ok1_run h
      subst hr
      refine upTo_val (w' := w) ?_ (lands_pure hR hA rel_bool)
      rw [hv, hu]
      exact run_eq_ptr ht (.inr rfl)
    · simp at h
  · obtain ⟨σ, ν, hR, hA⟩ := hRA
    obtain ⟨_, hv⟩ := evalA_rel hA hav
    obtain ⟨_, hu⟩ := evalA_rel hA hbv
    simp only [List.cons.injEq, and_true, PartRel] at hv hu
    split at h
    · rename_i ht _
      have hr := ok1_run h
      subst hr
      refine upTo_val (w' := w) ?_ (lands_pure hR hA rel_bool)
      rw [hv, hu]
      exact run_eq_ptr ht (.inl rfl)
    · rename_i ht _
      have hr := ok1_run h
      subst hr
      refine upTo_val (w' := w) ?_ (lands_pure hR hA rel_bool)
      rw [hv, hu]
      exact run_eq_ptr ht (.inr rfl)
    · simp at h
  · exact sound_bin op t x y S r _ h hps M w0 a w hRA

theorem reach_run {α : Type} {S : St D.τ} : ∀ {f : Nat} {ids : List Nat} {i : Nat} {k : List Nat → Rd D.τ α} {r : α} {l : List Ref}, (reach D f ids i k).run S = some (r, l) → ∃ ids' l', (k ids').run S = some (r, l')
  | 0, _, _, _, _, _, h => by simp [reach] at h
  | f + 1, ids, i, k, r, l, h => by
    simp only [reach] at h
    split at h
    · exact ⟨ids, l, h⟩
    · obtain ⟨l1, h⟩ := box_run h
      exact reach_run h

theorem rdBs_run {α : Type} {S : St D.τ} : ∀ {bs : List Nat} {k : List (BoxSt D.τ) → Rd D.τ α} {r : α} {l : List Ref}, (rdBs bs k).run S = some (r, l) → ∃ l', (k (bs.map S.box)).run S = some (r, l')
  | [], k, r, l, h => ⟨l, h⟩
  | b :: bs, k, r, l, h => by
    simp only [rdBs] at h
    obtain ⟨l1, h⟩ := box_run h
    obtain ⟨l', h'⟩ := rdBs_run (bs := bs) h
    exact ⟨l', h'⟩

theorem passA_sound {α : Type} {M : Mem} {w0 : World} {σ : Loc} {ν : Nat → Value} {S : St D.τ} {w : World} (hR : RR D M w0 σ ν S w) {ids : List Nat} {Mp : Nat → Prop} (hMp : Foot D M w0 σ ν S ids Mp) {F : Env} (hFM : F.M = Mp) (hFw : F.w0 = w)
    (hF : RenF (idx ids) (S.env D M w0 σ ν) F) {m : Bool} {t : TypeId} {a : AV D.τ} {k : A0 D.τ → Rd D.τ α} {r : α} {l : List Ref} {v : Value}
    (h : (passA P D ids m t a k).run S = some (r, l)) (ha : AVRel D (S.env D M w0 σ ν) a v) : ∃ x l', (k x).run S = some (r, l') ∧ A0Rel D F x v := by
  unfold passA at h
  cases m <;> simp only [cond_true, cond_false] at h
  · obtain ⟨x, l', h, hx⟩ := lendA_sound hR hMp h ha
    exact ⟨x, l', h, hx F hFM hFw⟩
  · split at h
    · split at h
      · rename_i a0 x hx
        exact ⟨x, l, h, rn0_sound hF hx ha⟩
      · simp at h
    · simp at h

theorem passAs_sound {α : Type} {M : Mem} {w0 : World} {σ : Loc} {ν : Nat → Value} {S : St D.τ} {w : World} (hR : RR D M w0 σ ν S w) {ids : List Nat} {Mp : Nat → Prop} (hMp : Foot D M w0 σ ν S ids Mp) {F : Env} (hFM : F.M = Mp) (hFw : F.w0 = w)
    (hF : RenF (idx ids) (S.env D M w0 σ ν) F) : ∀ {as : List (AV D.τ)} {ms : List Bool} {ts : List TypeId} {k : List (A0 D.τ) → Rd D.τ α} {r : α} {l : List Ref} {vs : List Value},
    (passAs P D ids ms ts as k).run S = some (r, l) → AVsRel (S.env D M w0 σ ν) as vs → ∃ xs l', (k xs).run S = some (r, l') ∧ A0sRel D F xs vs
  | [], ms, ts, k, r, l, vs, h, hp => by
    have h' : (k []).run S = some (r, l) := by
      cases ms <;> cases ts <;> exact h
    exact ⟨[], l, h', hp⟩
  | a :: as, ms, ts, k, r, l, vs, h, hp => by
    cases ms with
    | nil => simp [passAs] at h
    | cons m ms => cases ts with
      | nil => simp [passAs] at h
      | cons t ts =>
        obtain ⟨v, us, e, h1, h2⟩ := hp
        simp only [passAs] at h
        obtain ⟨x, l1, h, hx⟩ := passA_sound hR hMp hFM hFw hF h h1
        obtain ⟨xs, l2, h, hxs⟩ := passAs_sound hR hMp hFM hFw hF h h2
        exact ⟨x :: xs, l2, h, v, us, e, hx, hxs⟩

theorem start_op {M : Mem} {w0 : World} {σ : Loc} {ν : Nat → Value} {S : St D.τ} {w : World} (hR : RR D M w0 σ ν S w) {ids : List Nat} (hnd : ids.Nodup) {bs : List (BoxSt D.τ)} (hbs : rnBs D (idx ids) (ids.map S.box) = some bs)
    {σc : Loc} {νc : Nat → Value} (hσc : σc = ⟨fun i => σ (ids.getD i 0), σ.zw, σ.zm⟩) (hνc : νc = fun i => ν (ids.getD i 0)) :
    RR D (opMem D w σc νc bs) w σc νc (bst bs.length bs) w ∧ Foot D M w0 σ ν S ids (opMem D w σc νc bs).f ∧ RenF (idx ids) (S.env D M w0 σ ν) ((bst bs.length bs).env D (opMem D w σc νc bs) w σc νc) := by
  obtain ⟨hbl, hbg⟩ := rnBs_get hbs
  rw [List.length_map] at hbl
  have hget : ∀ (i : Nat) s, bs[i]? = some s → ∃ b, ids[i]? = some b ∧ rnB D (idx ids) (S.box b) = some s ∧ σc i = σ b ∧ νc i = ν b := by
    intro i s hs
    have hlt : i < ids.length := by have := (List.getElem?_eq_some_iff.1 hs).1; omega
    have hidi : ids[i]? = some ids[i] := List.getElem?_eq_getElem hlt
    obtain ⟨t, ht, hrt⟩ := hbg i (S.box ids[i]) (by rw [List.getElem?_map, hidi]; rfl)
    rw [hs] at ht
    simp only [Option.some.injEq] at ht
    subst ht
    refine ⟨ids[i], hidi, hrt, ?_, ?_⟩
    · rw [hσc]; show σ (ids.getD i 0) = σ ids[i]; simp [hidi, List.getD_eq_getElem?_getD]
    · rw [hνc]; show ν (ids.getD i 0) = ν ids[i]; simp [hidi, List.getD_eq_getElem?_getD]
  have hren : RenF (idx ids) (S.env D M w0 σ ν) ((bst bs.length bs).env D (opMem D w σc νc bs) w σc νc) := by
    have hbc : ∀ b c, idx ids b = some c → ∃ s, bs[c]? = some s ∧ rnB D (idx ids) (S.box b) = some s := by
      intro b c hbc
      have := idx_spec hbc
      exact hbg c (S.box b) (by rw [List.getElem?_map, this]; rfl)
    refine ⟨fun b c hb _ => ?_, fun b c hb => ?_, fun b c hb => ?_, ?_⟩
    · obtain ⟨s, h1, h2⟩ := hbc b c hb
      show ((bst bs.length bs).box c).al
      rw [bst_box, h1]; exact (rnB_al h2).2
    · have := idx_spec hb
      show σc c = σ b
      rw [hσc]; show σ (ids.getD c 0) = σ b; simp [this, List.getD_eq_getElem?_getD]
    · have := idx_spec hb
      show νc c = ν b
      rw [hνc]; show ν (ids.getD c 0) = ν b; simp [this, List.getD_eq_getElem?_getD]
    · rw [hσc]; exact fun g hg => ⟨hg, rfl⟩
  have hblk : ∀ i g, blk D ((bst bs.length bs).env D (opMem D w σc νc bs) w σc νc) i ((bst bs.length bs).box i) = some g → ∃ b, ids[i]? = some b ∧ blk D (S.env D M w0 σ ν) b (S.box b) = some g := by
    intro i g hg
    rw [bst_box] at hg
    cases hbi : bs[i]? with
    | none => rw [hbi] at hg; cases hg
    | some s =>
      rw [hbi, Option.getD_some] at hg
      obtain ⟨b, h1, h2, h3, h4⟩ := hget i s hbi
      refine ⟨b, h1, ?_⟩
      rw [← hg]
      exact (rnB_blk (E := S.env D M w0 σ ν) (F := (bst bs.length bs).env D (opMem D w σc νc bs) w σc νc) h3 h4 h2).symm
  have hfoot : Foot D M w0 σ ν S ids (opMem D w σc νc bs).f := by
    rintro g ⟨i, hi⟩
    obtain ⟨b, h1, h2⟩ := hblk i g hi
    exact ⟨b, List.mem_of_getElem? h1, h2⟩
  refine ⟨⟨fun i => ?_, fun i i' g hne h1 h2 => ?_, fun i g h => .inr ⟨i, h⟩, Kept.refl _ w, fun g hg => ?_, fun i g h hz => ?_, fun i hi => ⟨rfl, rfl, ?_⟩, ⟨hR.globAt, fun g k l hg hm => ?_⟩, fun g hg => ⟨hg, rfl⟩, fun g hg => .inl hg⟩, hfoot, hren⟩
  · rw [bst_box]
    cases hbi : bs[i]? with
    | none => trivial
    | some s =>
      rw [Option.getD_some]
      obtain ⟨b, h1, h2, h3, h4⟩ := hget i s hbi
      exact rnB_rel hren (b := b) h3 h4 h2 (hR.boxes b)
  · obtain ⟨b, q1, q2⟩ := hblk i g h1
    obtain ⟨b', p1, p2⟩ := hblk i' g h2
    refine hR.disj b b' g (fun e => hne ?_) q2 p2
    subst e
    exact (List.getElem?_inj (List.getElem?_eq_some_iff.1 q1).1 hnd).1 (by rw [q1, p1])
  · have hz : σ.zm g := by rw [hσc] at hg; exact hg
    have := hR.zk g hz
    refine ⟨this.1, ?_⟩
    rw [hσc]; exact this.2
  · obtain ⟨b, q1, q2⟩ := hblk i g h
    exact hR.zd b g q2 (by rw [hσc] at hz; exact hz)
  · obtain ⟨s, hs⟩ : ∃ s, bs[i]? = some s := ⟨_, List.getElem?_eq_getElem hi⟩
    obtain ⟨b, h1, h2, _⟩ := hget i s hs
    rw [bst_box, hs]; exact (rnB_al h2).2
  · obtain ⟨b, _, hb⟩ := hfoot g hm
    have hlt := (hR.glob.1 g k l hg).1
    rcases hR.lo b g hb with h | h
    · omega
    · exact hR.glob.2 g k l hg h

theorem sound_op (nid : Nat) (modes : List Bool) (F : List (BoxSt D.τ) → List (A0 D.τ) → Option (AV D.τ × List (BoxSt D.τ) × List Prop)) (f : FuncId) (hF : OpOK P D f F) (args : Array Operand) (ts : List TypeId) :
    Sound P D (oOp P D nid modes F args.toList ts) (fun ρ => callFunc f (args.map ρ)) := by
  intro S r l h hps M w0 a w ⟨σ, ν, hR, hA⟩
  unfold oOp at h
  obtain ⟨as, l1, has, h⟩ := rdAs_run h
  have hvs := evalAs_rel hA has
  obtain ⟨ids, l2, h⟩ := reach_run h
  cases hnd : nodupB ids <;> simp only [hnd, cond_true, cond_false, run_fail] at h
  obtain ⟨l3, h⟩ := rdBs_run h
  split at h
  · rename_i bs hbs
    obtain ⟨hst, hfoot, hren⟩ := start_op hR (nodupB_spec hnd) hbs (σc := ⟨fun i => σ (ids.getD i 0), σ.zw, σ.zm⟩) (νc := fun i => ν (ids.getD i 0)) rfl rfl
    obtain ⟨xs, l4, h, hxs⟩ := passAs_sound hR hfoot rfl rfl hren h hvs
    split at h
    · rename_i r0 bs' ps hFx
      cases hlen : Nat.ble ids.length bs'.length <;> simp only [hlen, cond_true, cond_false, run_fail] at h
      split at h
      · rename_i r' hr'
        split at h
        · rename_i us hus
          obtain ⟨⟨l5, h⟩, hun⟩ := rdUn_run h
          simp only [run_ret] at h
          obtain ⟨rfl, _⟩ := h
          obtain ⟨g, gargs, hrun, hc⟩ := hF bs xs r0 bs' ps hFx hps w _ _ _ hst hxs
          have he : (args.toList.map a.eval).toArray = args.map a.eval := by apply Array.ext'; simp
          rw [he] at hrun
          rw [hrun]
          exact hc.mono fun en w' ⟨v, hen, σ', ν', hR', hv⟩ => ⟨v, hen, lands_op hR hA (nodupB_spec hnd) hbs rfl (Nat.le_of_ble_eq_true hlen) hun hr' hus hR' hv⟩
        · simp at h
      · simp at h
    · simp at h
  · simp at h

theorem sound_call {Γ : Gam D} (hΓ : GamOK P D Γ) (nid : Nat) (f : FuncId) (args : Array Operand) (ts : List TypeId) :
    Sound P D (oCall P D Γ nid f args.toList ts) (fun ρ => callFunc f (args.map ρ)) := by
  intro S r l h hps M w0 a w hRA
  unfold oCall at h
  split at h
  · rename_i F hF
    obtain ⟨σ, ν, hR, hA⟩ := hRA
    obtain ⟨as, l1, has, h⟩ := rdAs_run h
    obtain ⟨xs, l2, h, hxs⟩ := lendAs_sound hR foot_nil h (evalAs_rel hA has)
    split at h
    · rename_i r' ps hr'
      split at h
      · rename_i x ds hds
        obtain ⟨⟨l3, h⟩, hun⟩ := rdUn_run h
        simp only [run_ret] at h
        obtain ⟨rfl, _⟩ := h
        have hFn : FnOK P D f F := hΓ.get hF
        obtain ⟨n, hrun, hn⟩ := hFn xs r' ps hr' hps w _ hR.globAt (hxs (cenv w) rfl rfl)
        have he : (args.toList.map a.eval).toArray = args.map a.eval := by apply Array.ext'; simp
        rw [he] at hrun
        rw [hrun]
        cases n <;> simp only at hn <;> simp only [UpTo]
        case value v => exact lands_call hR hA hun hds hn (Below.refl _ _)
        case enter g vs => exact hn.mono fun e w' ⟨v, he, hv, hb⟩ => ⟨v, he, lands_call hR hA hun hds hv hb⟩
      · simp at h
    · simp at h
  · rename_i F hF
    obtain ⟨σ, ν, hR, hA⟩ := hRA
    obtain ⟨as, l1, has, h⟩ := rdAs_run h
    obtain ⟨xs, l2, h, hxs⟩ := lendAs_sound hR foot_nil h (evalAs_rel hA has)
    split at h
    · rename_i r' ps hr'
      split at h
      · rename_i b e k il hds
        cases hb : Nat.beq b nid <;> simp only [hb, cond_true, cond_false, run_fail] at h
        have := Nat.eq_of_beq_eq_true hb
        subst this
        obtain ⟨⟨l3, h⟩, hun⟩ := rdUn_run h
        simp only [run_ret] at h
        obtain ⟨rfl, _⟩ := h
        have hFn : FnOK P D f F := hΓ.get hF
        obtain ⟨n, hrun, hn⟩ := hFn xs r' ps hr' hps w _ hR.globAt (hxs (cenv w) rfl rfl)
        have he : (args.toList.map a.eval).toArray = args.map a.eval := by apply Array.ext'; simp
        rw [he] at hrun
        rw [hrun]
        cases n <;> simp only at hn <;> simp only [UpTo]
        case value v => exact lands_fz (e := e) (lands_call (nid := b) (ds := [(e, k, il)]) hR hA hun hds hn (Below.refl _ _))
        case enter g vs => exact hn.mono fun e' w' ⟨v, he, hv, hb⟩ => ⟨v, he, lands_fz (e := e) (lands_call (nid := b) (ds := [(e, k, il)]) hR hA hun hds hv hb)⟩
      · simp at h
    · simp at h
  · rename_i modes F hF
    have hFn : OpOK P D f F := hΓ.get hF
    exact sound_op nid modes F f hFn args ts S r l h hps M w0 a w hRA
  · simp at h

theorem freeze_world {w : World} {g k : Nat} {cur : Array Value} {e : TypeId} (hg : w.heap[g]? = some (.cells cur e (0, 0))) :
    (w.freeze ⟨g, k, none⟩ 1).heap[g]? = some (.cells cur e (k, k + 1)) ∧ (∀ h, h ≠ g → (w.freeze ⟨g, k, none⟩ 1).heap[h]? = w.heap[h]?) ∧ (w.freeze ⟨g, k, none⟩ 1).heap.size = w.heap.size ∧ (w.freeze ⟨g, k, none⟩ 1).os = w.os ∧ (w.freeze ⟨g, k, none⟩ 1).tape = w.tape ∧ (w.freeze ⟨g, k, none⟩ 1).output = w.output := by
  unfold World.freeze
  rw [if_neg (by decide)]
  refine ⟨?_, fun h hh => ?_, ?_, rfl, rfl, rfl⟩
  · simp only [Array.getElem?_modify, if_true, hg, Option.map_some]
    rfl
  · simp only [Array.getElem?_modify, if_neg (Ne.symm hh)]
  · simp

theorem sound_convert2 (s t : TypeId) (x : Operand) : Sound P D (oConvert2 P D s t x) (fun ρ => do pure (.value (← convert s t (ρ x)))) := by
  intro S r l h hps M w0 a w hRA
  unfold oConvert2 at h
  obtain ⟨av, l0, hav, h⟩ := rdA_run h
  split at h
  · rename_i b
    cases hst : Nat.beq s t <;> simp only [hst, cond_true, cond_false, run_fail] at h
    have := Nat.eq_of_beq_eq_true hst
    subst this
    split at h
    · rename_i e ht
      split at h
      · rename_i he
        obtain ⟨l1, h⟩ := box_run h
        split at h
        · rename_i e' k il hbx
          simp only [run_ret] at h
          obtain ⟨rfl, _⟩ := h
          have hpos : 0 < il.length := hps _ (by simp)
          obtain ⟨σ, ν, hR, hA⟩ := hRA
          obtain ⟨_, hal, h1c, hv⟩ := evalA_rel hA hav
          have hv' : a.eval x = ν b := (List.cons.inj hv).1
          have hb := hR.boxes b
          rw [hbx] at hb
          obtain ⟨n, xs, hown, hp, _⟩ := hb
          simp only [PartRel] at hp
          subst hp
          have hown' : w.ownsL 0 e' 1 (ν b) n (il.map (Value.int k)) := hown
          have hn : il.length = n := by have := hown'.1; simpa using this
          rcases hown'.2 with ⟨_, hz⟩ | ⟨g, cap, cur, hνe, _, hcur, hnc, hcm, hcs, htk⟩
          · omega
          have hblk : blk D (S.env D M w0 σ ν) b (S.box b) = some g := by rw [hbx]; show (ν b).ownBlock = _; rw [hνe]; rfl
          have hsh : w.shape? g = some (e', cur.size) := by unfold World.shape?; rw [hcur]
          obtain ⟨f1, f2, f3, f4, f5, f6⟩ := freeze_world (k := cur.size) hcur
          generalize hw' : w.freeze ⟨g, cur.size, none⟩ 1 = w' at f1 f2 f3 f4 f5 f6
          have hrun : (convert s s (a.eval x)).run P w = .ok (a.eval x) w' := by
            rw [hv', hνe, ← hw']
            simp [convert, run_underlying ht, run_underlying he, markStringish, hsh]
          refine upTo_val hrun ?_
          have hle : (S.env D M w0 σ ν).le ((S.upd (.box b .dead)).env D M w0 ⟨σ.f, w', fun h => σ.zm h ∨ h = g⟩ ν) := by
            refine ⟨fun c h => ?_, fun _ _ => rfl, fun _ _ => rfl, rfl, rfl, ⟨rfl, rfl⟩, fun h hz => ⟨.inl hz, ?_⟩⟩
            · show ((S.upd (.box b .dead)).box c).al
              by_cases hc : c = b
              · subst hc; rw [upd_box_same]; trivial
              · rw [upd_box_other S _ hc]; exact h
            · have hne : h ≠ g := fun e => hR.zd b g hblk (e ▸ hz)
              show w'.heap[h]? = _
              rw [f2 h hne]; exact (hR.zk h hz).2
          refine ⟨⟨σ.f, w', fun h => σ.zm h ∨ h = g⟩, ν, ?_, ?_, ?_⟩
          · rw [bx_one]
            refine hR.step hle (fun _ => False) (fun _ h => h.elim) (fun c _ => ?_) (fun _ _ _ h => h.elim) (fun _ _ h => h.elim) ?_ rfl (fun h hz => ?_) (fun _ _ h => h.elim) (fun c h _ hc he' hz => ?_) (fun h hz => ?_)
            · by_cases hc : c = b
              · subst hc; exact .inr (upd_box_same _ _ _)
              · refine .inl ⟨upd_box_other S _ hc, fun h hh => f2 h (fun e => ?_)⟩
                subst e
                exact hR.disj c b h hc hh hblk
            · refine ⟨f4.trans hR.kept.os, f5.trans hR.kept.tape, f6.trans hR.kept.output, by rw [f3]; exact hR.kept.size, fun h hh hm => ?_⟩
              rw [← hR.kept.block h hh hm]
              refine f2 h (fun e => ?_)
              subst e
              rcases hR.lo b h hblk with h1 | h1
              · omega
              · exact hm h1
            · rcases hz with hz | hz
              · have hne : h ≠ g := fun e => hR.zd b g hblk (e ▸ hz)
                exact ⟨by rw [f3]; exact (hR.zk h hz).1, rfl⟩
              · subst hz; exact ⟨by rw [f3]; exact blk_lt hR hblk, rfl⟩
            · rcases hz with hz | hz
              · exact hR.zd c h hc hz
              · subst hz
                by_cases hcb : c = b
                · subst hcb
                  rw [upd_box_same] at he'
                  rw [← he'] at hc
                  cases hc
                · exact hR.disj c b h hcb hc hblk
            · rcases hz with hz | hz
              · exact .inl hz
              · subst hz; exact .inr (hR.lo b h hblk)
          · rw [bx_one]; exact hA.mono hle rfl rfl
          · refine ⟨by rw [hv', hνe]; rfl, _, rfl, some ⟨g, 0, none⟩, cap, by rw [hv', hνe, hn], by omega, hcm, (fun h => by cases h), fun i hi => ⟨g, 0, rfl, fun hz => hz (.inr rfl), ?_⟩⟩
            have := hown'.cells (g := g) (by rw [hνe]; rfl) i _ (getD_ints hi)
            rw [Addr.add_lit] at this
            rw [cell_of_row w g _ cur e' _ hcur] at this
            show w'.cell? _ = _
            rw [cell_of_row w' g _ cur e' _ f1]
            exact this
        · simp at h
      · simp at h
    · simp at h
  · exact sound_convert s t x S r _ h hps M w0 a w hRA

theorem sound_slice3 (nid : Nat) (t : TypeId) (x y z : Operand) : Sound P D (oSlice3 P D nid t x y z) (fun ρ => do pure (.value (← Instr.sliceAt t (ρ x) none (some (ρ y)) (some (ρ z))))) := by
  intro S r l h hps M w0 a w ⟨σ, ν, hR, hA⟩
  unfold oSlice3 at h
  obtain ⟨av, l0, hav, h⟩ := rdA_run h
  have hx := evalA_rel hA hav
  split at h
  · rename_i b
    obtain ⟨hone, hal, h1c, hv⟩ := hx
    simp only [List.cons.injEq, and_true] at hv
    split at h
    · rename_i e ht
      split at h
      · rename_i hs
        obtain ⟨ay, az, l1, hay, haz, h⟩ := pair_run h
        split at h
        · rename_i k1 b1 q k2 b2 m
          have hy1 : a.eval y = .int k1 q := by simpa [PartRel] using (evalA_rel hA hay).2
          have hz1 : a.eval z = .int k2 m := by simpa [PartRel] using (evalA_rel hA haz).2
          obtain ⟨l2, h⟩ := box_run h
          split at h
          · rename_i hun
            obtain ⟨l3, h⟩ := box_run h
            have hb := hR.boxes b
            split at h
            · rename_i e2 k il hbx
              simp only [run_ret] at h
              obtain ⟨rfl, _⟩ := h
              have h0 : 0 ≤ q := hps _ (by simp)
              have h1 : q ≤ m := hps _ (by simp)
              have h2 : m ≤ il.length := hps _ (by simp)
              rw [hbx] at hb
              obtain ⟨n', xs, hown, hp, _⟩ := hb
              simp only [PartRel] at hp
              subst hp
              have hown' : w.ownsL 0 e2 1 (ν b) n' (il.map (Value.int k)) := hown
              have hn' : il.length = n' := by have := hown'.1; simpa using this
              have hv' : a.eval x = ν b := hv
              obtain ⟨v, hrun, hvo, hvb, hv1⟩ : ∃ v, (Instr.sliceAt t (ν b) none (some (a.eval y)) (some (a.eval z))).run P w = .ok v w ∧ w.ownsL 0 e2 1 v q.toNat ((il.take q.toNat).map (Value.int k)) ∧ v.ownBlock = (ν b).ownBlock ∧ v.oneCell' = true := by
                rcases hown'.2 with ⟨hn, hz⟩ | ⟨g, cap, cur, hνe, _, hcur, hnc, hcm, hcs, htk⟩
                · have hq : q = 0 := by omega
                  have hm : m = 0 := by omega
                  subst hq hm
                  rw [hn, hy1, hz1]
                  refine ⟨.slice none 0 0, ?_, ⟨by simp, .inl ⟨rfl, rfl⟩⟩, rfl, rfl⟩
                  simp [Instr.sliceAt, Instr.slice, run_underlying ht, Instr.sliceBounds, run_sliceBound, run_sizeOfB hs]
                · rw [hνe, hy1, hz1]
                  have em : (m.toNat : Int) = m := Int.toNat_of_nonneg (by omega)
                  have hmc : m ≤ cap := by omega
                  have hm0 : 0 ≤ m := by omega
                  refine ⟨.slice (some ⟨g, 0, none⟩) q.toNat m.toNat, ?_, ⟨by simp; omega, .inr ⟨g, m.toNat, cur, rfl, Nat.zero_le _, hcur, by omega, by omega, by omega, ?_⟩⟩, rfl, rfl⟩
                  · simp [Instr.sliceAt, Instr.slice, run_underlying ht, Instr.sliceBounds, run_sliceBound, run_sizeOfB hs, Addr.add, h0, h1, hmc, hm0, em]
                  · rw [List.map_take, ← htk, Nat.mul_one, Nat.mul_one, List.take_take, Nat.min_eq_left (by omega)]
              refine upTo_val (v := v) (w' := w) ?_ (lands_dyn (old := [b]) (row := none) hR hA hun hvo rfl hv1 (World.grownBy.refl _ _) (by simp) (fun g hg => .inr ⟨b, by simp, ?_⟩))
              · rw [hv']; exact hrun
              · rw [hbx]; show (ν b).ownBlock = some g; rw [← hvb]; exact hg
            · simp at h
          · simp at h
        · simp at h
      · simp at h
    · simp at h
  · simp at h

theorem sound_min {ts : Array TypeId} {ty : TypeId} (x y : Operand) : Sound P D (oMin D x y) (fun ρ => valOf (Builtin.min_ ts ty #[ρ x, ρ y])) := by
  intro S r l h hps M w0 a w ⟨σ, ν, hR, hA⟩
  unfold oMin at h
  obtain ⟨ax, ay, l1, hax, hay, h⟩ := pair_run h
  split at h
  · rename_i k1 b1 m k2 b2 n
    have hx1 : a.eval x = .int k1 m := by simpa [PartRel] using (evalA_rel hA hax).2
    have hy1 : a.eval y = .int k2 n := by simpa [PartRel] using (evalA_rel hA hay).2
    have hr := ok1_run h
    subst hr
    refine upTo_val (w' := w) (v := .int k1 (if n < m then n else m)) ?_ (lands_pure hR hA ⟨rfl, rfl⟩)
    rw [hx1, hy1]
    simp [Builtin.min_, Builtin.min2]
  · simp at h

/-- **Each operation does what its description says.** -/
theorem aop0_sound {Γ : Gam D} (hΓ : GamOK P D Γ) (nid : Nat) (o : Oper) : Sound P D (aop0 P D Γ nid o) (fun ρ => execOp ρ o) := by
  intro S r l h hps M w0 a w hR
  unfold aop0 at h
  split at h
  · rename_i x e; have := sound_move (P := P) x S r l h hps M w0 a w hR; simpa only [execOp, e] using this
  · rename_i x e; have := sound_move (P := P) x S r l h hps M w0 a w hR; simpa only [execOp, e] using this
  · rename_i c x y e; have := sound_pick (P := P) c x y S r l h hps M w0 a w hR; simpa only [execOp, e] using this
  · rename_i t e; have := sound_alloc (P := P) nid t S r l h hps M w0 a w hR; simpa only [execOp, e] using this
  · rename_i t x e; have := sound_box (P := P) nid t x S r l h hps M w0 a w hR; simpa only [execOp, e] using this
  · rename_i t parts e; have := sound_build (P := P) t parts S r l h hps M w0 a w hR; simpa only [execOp, e] using this
  · rename_i t x e; have := sound_load2 (P := P) t x S r l h hps M w0 a w hR; simpa only [execOp, e] using this
  · rename_i t x y e; have := sound_store2 (P := P) t x y S r l h hps M w0 a w hR; simpa only [execOp, e] using this
  · rename_i x e; exact sound_nilCheck (P := P) o x e S r l h hps M w0 a w hR
  · rename_i s x i e; have := sound_fieldAddr (P := P) s x i S r l h hps M w0 a w hR; simpa only [execOp, e] using this
  · rename_i s x i e; have := sound_field (P := P) s x i S r l h hps M w0 a w hR; simpa only [execOp, e] using this
  · rename_i t x y e; have := sound_indexAddr2 (P := P) t x y S r l h hps M w0 a w hR; simpa only [execOp, e] using this
  · rename_i t x y e; have := sound_index (P := P) t x y S r l h hps M w0 a w hR; simpa only [execOp, e] using this
  · rename_i x i e; have := sound_extract (P := P) x i S r l h hps M w0 a w hR; simpa only [execOp, e] using this
  · rename_i op t x y yt e; have := sound_bin2 (P := P) op t x y S r l h hps M w0 a w hR; simpa only [execOp, e, valOf] using this
  · rename_i op t x e; have := sound_un (P := P) op x S r l h hps M w0 a w hR; simpa only [execOp, e] using this
  · rename_i s t x e; have := sound_convert2 (P := P) s t x S r l h hps M w0 a w hR; simpa only [execOp, e] using this
  · rename_i t x lo hi e; have := sound_slice2 (P := P) Γ nid o.dst t x lo hi S r l h hps M w0 a w hR; simpa only [execOp, e, Option.map_none] using this
  · rename_i t x y z e; have := sound_slice3 (P := P) nid t x y z S r l h hps M w0 a w hR; simpa only [execOp, e, Option.map_none, Option.map_some] using this
  · rename_i t x e; have := sound_arrPtr (P := P) t x S r l h hps M w0 a w hR; simpa only [execOp, e] using this
  · rename_i t x c e; have := sound_makeSlice (P := P) nid t x c S r l h hps M w0 a w hR; simpa only [execOp, e] using this
  · rename_i t len parts e; have := sound_buildSlice2 (P := P) nid t len parts S r l h hps M w0 a w hR; simpa only [execOp, e] using this
  · rename_i c e
    simp only [execOp, e]
    split at h
    · rename_i f hc
      rw [run_callOp a.eval c f o.type w hc rfl]
      exact sound_call hΓ nid f c.args _ S r l h hps M w0 a w hR
    · rename_i hc
      split at h
      · rename_i x t hx ht
        rw [run_builtinOp a.eval c _ o.type w hc]
        have := sound_len2 (P := P) x t o.type S r l h hps M w0 a w hR
        rw [list1 hx, list1 ht]
        simpa only [builtin, valOf, List.map_toArray, List.map_cons, List.map_nil] using this
      · simp at h
    · rename_i hc
      split at h
      · rename_i x y t u hx ht
        rw [run_builtinOp a.eval c _ o.type w hc]
        have := sound_append2 (P := P) nid x y t u o.type S r l h hps M w0 a w hR
        rw [list2 hx, list2 ht]
        simpa only [builtin, valOf, List.map_toArray, List.map_cons, List.map_nil] using this
      · simp at h
    · rename_i hc
      split at h
      · rename_i x y t u hx ht
        rw [run_builtinOp a.eval c _ o.type w hc]
        have := sound_copy2 (P := P) x y t u o.type S r l h hps M w0 a w hR
        rw [list2 hx, list2 ht]
        simpa only [builtin, valOf, List.map_toArray, List.map_cons, List.map_nil] using this
      · simp at h
    · rename_i hc
      split at h
      · rename_i x y hx
        rw [run_builtinOp a.eval c _ o.type w hc]
        have := sound_min (P := P) (ts := c.argTypes) (ty := o.type) x y S r l h hps M w0 a w hR
        rw [list2 hx]
        simpa only [builtin, valOf, List.map_toArray, List.map_cons, List.map_nil] using this
      · simp at h
    · simp at h
  · simp at h

theorem map_run {α β : Type} {f : α → β} {S : St D.τ} : ∀ {m : Rd D.τ α} {b : β} {l : List Ref}, (m.map f).run S = some (b, l) → ∃ a, m.run S = some (a, l) ∧ f a = b := by
  intro m
  induction m with
  | ret a => intro b l h; simp only [Rd.map, run_ret] at h; exact ⟨a, by simp [h.2], h.1⟩
  | fail => intro b l h; simp [Rd.map] at h
  | slot t k ih =>
    intro b l h
    simp only [Rd.map, Rd.run] at h
    split at h
    · rename_i x l' hx
      simp only [Option.some.injEq, Prod.mk.injEq] at h
      obtain ⟨rfl, rfl⟩ := h
      obtain ⟨a, h1, h2⟩ := ih _ hx
      exact ⟨a, by simp [Rd.run, h1], h2⟩
    · cases h
  | box c k ih =>
    intro b l h
    simp only [Rd.map, Rd.run] at h
    split at h
    · rename_i x l' hx
      simp only [Option.some.injEq, Prod.mk.injEq] at h
      obtain ⟨rfl, rfl⟩ := h
      obtain ⟨a, h1, h2⟩ := ih _ hx
      exact ⟨a, by simp [Rd.run, h1], h2⟩
    · cases h

theorem lastB_none : ∀ {us : List (Nat × BoxSt D.τ)} {b : Nat} {S : St D.τ}, lastB us b = none → (S.bx us).box b = S.box b
  | [], _, _, _ => rfl
  | (c, s) :: us, b, S, h => by
    simp only [lastB] at h
    split at h
    · cases h
    · rename_i hn
      cases hb : Nat.beq b c <;> simp only [hb, cond_true, cond_false] at h
      · show ((S.upd (.box c s)).bx us).box b = _
        rw [lastB_none hn]
        exact upd_box_other S s (fun e => by subst e; simp at hb)
      · cases h

theorem lastB_some : ∀ {us : List (Nat × BoxSt D.τ)} {b : Nat} {t : BoxSt D.τ} {S : St D.τ}, lastB us b = some t → (S.bx us).box b = t
  | [], _, _, _, h => by cases h
  | (c, s) :: us, b, t, S, h => by
    simp only [lastB] at h
    show ((S.upd (.box c s)).bx us).box b = _
    split at h
    · rename_i u hu
      simp only [Option.some.injEq] at h
      subst h
      exact lastB_some hu
    · rename_i hn
      cases hb : Nat.beq b c <;> simp only [hb, cond_true, cond_false] at h
      · cases h
      · have := Nat.eq_of_beq_eq_true hb
        subst this
        simp only [Option.some.injEq] at h
        subst h
        rw [lastB_none hn, upd_box_same]

theorem bx_append (S : St D.τ) (us vs : List (Nat × BoxSt D.τ)) : S.bx (us ++ vs) = (S.bx us).bx vs := by
  induction us generalizing S with
  | nil => rfl
  | cons u us ih => exact ih (S.upd (.box u.1 u.2))

theorem frz_lands {M : Mem} {w0 : World} {S : St D.τ} {a : Act} {r : Res D.τ} {v : Value} {w : World} (fr : Bool) (h : Lands M w0 S a r v w) : Lands M w0 S a (frz fr r) v w := by
  unfold frz
  cases fr
  · exact h
  simp only [cond_true]
  split
  · rename_i b us ps
    split
    · rename_i e k l hl
      obtain ⟨σ, ν, hR, hA, hv⟩ := h
      have hbox : (S.bx us).box b = .dyn e (.ints k l) := lastB_some hl
      have hb := hR.boxes b
      rw [hbox] at hb
      obtain ⟨n, xs, hown, hp, h1⟩ := hb
      simp only [PartRel] at hp
      subst hp
      unfold Lands
      simp only [bx_append, bx_one]
      refine ⟨⟨σ.f, w, fun g => σ.zm g ∨ blk D ((S.bx us).env D M w0 σ ν) b ((S.bx us).box b) = some g⟩, ν, hR.freeze b, hA.mono (freeze_le hR b) rfl rfl, ?_⟩
      obtain ⟨_, _, _, hv3⟩ := hv
      have hv4 : v = ν b := (List.cons.inj hv3).1
      refine ⟨by rw [hv4]; exact h1, v, rfl, ?_⟩
      rw [hv4]
      exact sl_own hown fun g hg hz => hz (.inr (by rw [hbox]; exact hg))
    · exact h
  · exact h

theorem frz_ps {τ : Type} (fr : Bool) (r : Res τ) : (frz fr r).ps = r.ps := by
  unfold frz
  cases fr
  · rfl
  simp only [cond_true]
  split
  · split <;> rfl
  · rfl

theorem aop_sound {Γ : Gam D} (hΓ : GamOK P D Γ) (nid : Nat) (o : Oper) : Sound P D (aop P D Γ nid o) (fun ρ => execOp ρ o) := by
  intro S r l h hps M w0 a w hR
  unfold aop at h
  obtain ⟨r0, h0, rfl⟩ := map_run h
  exact (aop0_sound hΓ nid o S r0 l h0 (by rw [← frz_ps (frozenAt D Γ o.dst) r0]; exact hps) M w0 a w hR).mono fun v w' hl => frz_lands _ hl

end
end Go.Abs

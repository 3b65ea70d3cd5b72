/- An evaluator over descriptions of values: rows of records, sliced, built and appended to; interface values, function values, texts. -/
import Derived.Test.YtakigppkbolmnaaAbsR
namespace Go.Abs
open Go.RowKit
section
variable {P : Program} {D : Dom}

theorem rowsOf_sound {α : Type} {M : Mem} {w0 : World} {σ : Loc} {ν : Nat → Value} {S : St D.τ} {w : World} (hR : RR D M w0 σ ν S w) {e : TypeId} {k : IntKind} {q : Part D.τ} {f : List (List Int) → Rd D.τ α} {r : α} {l : List Ref} {v : Value}
    (h : (rowsOf D e k q f).run S = some (r, l)) (hp : PartRel D (S.env D M w0 σ ν) q [v]) :
    ∃ ll l', (f ll).run S = some (r, l') ∧ ∃ ao cap us, v = .slice ao us.length cap ∧ WsRel (S.env D M w0 σ ν) k ll us ∧ (ao = none → us = [] ∧ cap = 0) ∧ ∀ ad, ao = some ad → ∀ j u, us[j]? = some u → w.cell? (ad.add j) = some u := by
  unfold rowsOf at h
  split at h
  · simp only [PartRel, List.cons.injEq, and_true] at hp
    exact ⟨[], l, h, none, 0, [], hp, ⟨rfl, fun i u h => by simp at h⟩, fun _ => ⟨rfl, rfl⟩, fun ad h => by cases h⟩
  · rename_i k' ll
    split at h
    · rename_i hk
      subst hk
      obtain ⟨v', e1, ao, cap, e2, h1, h2, h3, h4⟩ := hp
      simp only [List.cons.injEq, and_true] at e1
      subst e1
      cases ao with
      | none =>
        have hc := h3 rfl
        have hl : ll = [] := List.eq_nil_of_length_eq_zero (by omega)
        subst hl
        subst hc
        exact ⟨[], l, h, none, 0, [], e2, ⟨rfl, fun i u h => by simp at h⟩, fun _ => ⟨rfl, rfl⟩, fun ad h => by cases h⟩
      | some ad =>
        have key : ∀ i, i < ll.length → ∃ u, w.cell? (ad.add i) = some u ∧ ∃ M' W', Base (S.env D M w0 σ ν) M' W' ∧ SlRel M' W' k (ll.getD i []) u := by
          intro i hi
          obtain ⟨b, off, u, q1, q2, q3, q4⟩ := h4 i hi
          simp only [Option.some.injEq] at q1
          subst q1
          refine ⟨u, ?_, _, _, .inl ⟨rfl, rfl⟩, q4⟩
          rw [Addr.add_lit, ← q3]
          exact World.cell?_of_block (hR.kept.block b (World.block_lt_of_cell? _ _ q3) q2)
        refine ⟨ll, l, h, some ad, cap, (List.range ll.length).map (fun i => (w.cell? (ad.add i)).getD undef), by rw [e2]; simp, ⟨by simp, fun i u hu => ?_⟩, (fun h => by cases h), fun ad' e j u hu => ?_⟩
        · have hi : i < ll.length := by have := (List.getElem?_eq_some_iff.1 hu).1; simpa using this
          obtain ⟨u', q1, q2⟩ := key i hi
          simp only [List.getElem?_map, List.getElem?_range hi, Option.map_some, q1, Option.getD_some, Option.some.injEq] at hu
          subst hu
          exact q2
        · simp only [Option.some.injEq] at e
          subst e
          have hi : j < ll.length := by have := (List.getElem?_eq_some_iff.1 hu).1; simpa using this
          obtain ⟨u', q1, q2⟩ := key j hi
          simp only [List.getElem?_map, List.getElem?_range hi, Option.map_some, q1, Option.getD_some, Option.some.injEq] at hu
          subst hu
          exact q1
    · simp at h
  · rename_i c
    obtain ⟨l1, h⟩ := box_run h
    split at h
    · rename_i e' k' ll hbx
      cases he : Nat.beq e e' <;> simp only [he, cond_true, cond_false, run_fail] at h
      split at h
      · rename_i hk
        subst hk
        have hb := hR.boxes c
        rw [hbx] at hb
        obtain ⟨n, xs, hown, ⟨hxl, hxs⟩, _⟩ := hb
        have hown' : w.ownsL 0 e' 1 (ν c) n xs := hown
        have hv : v = ν c := (List.cons.inj hp.2.2).1
        have hn : xs.length = n := by have := hown'.1; simpa using this
        rcases hown'.2 with ⟨hνe, h0⟩ | ⟨g, cap, cur, hνe, _, hcur, hnc, hcm, hcs, htk⟩
        · have hx : xs = [] := List.eq_nil_of_length_eq_zero (by omega)
          subst hx
          exact ⟨ll, _, h, none, 0, [], by rw [hv, hνe]; rfl, ⟨hxl, fun i u h => by simp at h⟩, fun _ => ⟨rfl, rfl⟩, fun ad h => by cases h⟩
        · refine ⟨ll, _, h, some ⟨g, 0, none⟩, cap, xs, by rw [hv, hνe, hn], ⟨hxl, hxs⟩, (fun h => by cases h), fun ad e j u hu => ?_⟩
          simp only [Option.some.injEq] at e
          subst e
          exact hown'.cells (g := g) (by rw [hνe]; rfl) j u hu
      · simp at h
    · simp at h
  · simp at h

theorem sound_append2 (nid : Nat) (x y : Operand) (t u ty : TypeId) : Sound P D (oAppend2 P D nid x y t u) (fun ρ => valOf (Builtin.append_ #[t, u] ty #[ρ x, ρ y])) := by
  intro S r l h hps M w0 a w hRA
  unfold oAppend2 at h
  split at h
  · rename_i e ht
    split at h
    · rename_i k hk
      split at h
      · rename_i hs
        obtain ⟨σ, ν, hR, hA⟩ := hRA
        cases hb : (Nat.beq t u && zeroSl P e) <;> simp only [hb, cond_true, cond_false, run_fail] at h
        simp only [Bool.and_eq_true] at hb
        have htu := Nat.eq_of_beq_eq_true hb.1
        subst htu
        obtain ⟨av, l0, hav, h⟩ := rdA_run h
        have hx := evalA_rel hA hav
        split at h
        · rename_i p
          obtain ⟨bv, l1, hbv, h⟩ := rdA_run h
          have hy := evalA_rel hA hbv
          split at h
          · rename_i q
            obtain ⟨ll, l2, h, ao, cap, us, hye, hus, hnil, hnews⟩ := rowsOf_sound hR h hy.2
            obtain ⟨l3, h⟩ := box_run h
            split at h
            · rename_i hun
              split at h
              · simp only [run_ret] at h
                obtain ⟨rfl, _⟩ := h
                have hxv : a.eval x = .slice none 0 0 := by have := hx.2; simpa [PartRel] using this
                have b2 : ll.length * bytesOfT P e ≤ 140737488355328 := hps _ (by simp)
                have b1 : ll.length ≤ 9223372036854775807 := hps _ (by simp)
                obtain ⟨v', w', hr, ho, hg, hgo⟩ := append_runV (P := P) (ty := ty) (w := w) (v := .slice none 0 0) (n := 0) (xs := []) (us := us) (cap' := cap) ht hs hb.2 (World.ownsL_nil _ _ _ _) hus.one hnil hnews (by rw [hus.1]; omega) (by rw [hus.1]; simpa using b2)
                simp only [List.nil_append, Nat.zero_add] at ho
                refine upTo_val (v := v') (w' := w') (by rw [hxv, hye]; exact hr) (lands_dyn (old := []) (row := none) hR hA hun ho ⟨hus.1, hus.2⟩ (ownsL_one ho) hg (by simp) (fun g h' => .inl ?_))
                rcases hgo g h' with h'' | h''
                · exact h''
                · simp [Value.ownBlock] at h''
              · rename_i b _ _ _
                obtain ⟨l4, h⟩ := box_run h
                have hbb := hR.boxes b
                split at h
                · rename_i e' k' xl hbx
                  split at h
                  · rename_i hk'
                    subst hk'
                    generalize hbe : Nat.beq e e' = be at h
                    cases be <;> simp only [cond_true, cond_false, run_fail] at h
                    have hee := Nat.eq_of_beq_eq_true hbe
                    subst hee
                    simp only [run_ret] at h
                    obtain ⟨rfl, _⟩ := h
                    have b2 : (xl.length + ll.length) * bytesOfT P e ≤ 140737488355328 := hps _ (by simp)
                    have b1 : xl.length + ll.length ≤ 9223372036854775807 := hps _ (by simp)
                    rw [hbx] at hbb
                    obtain ⟨n, xs, hown, hxs, _⟩ := hbb
                    have hown : w.ownsL 0 _ 1 _ n xs := hown
                    have hn : xs.length = n := by have := hown.1; simpa using this
                    subst hn
                    have hxv : a.eval x = ν b := by
                      have h9 : [a.eval x] = [ν b] := hx.2.2.2
                      simpa using h9
                    obtain ⟨v', w', hr, ho, hg, hgo⟩ := append_runV (P := P) (ty := ty) (w := w) (v := ν b) (us := us) (cap' := cap) ht hs hb.2 hown hus.one hnil hnews (by rw [hxs.1, hus.1]; exact b1) (by rw [hxs.1, hus.1]; exact b2)
                    have hblk : ∀ g, (ν b).ownBlock = some g → ∃ b' ∈ [b], Fp D (S.env D M w0 σ ν) b' (S.box b') g := fun g h' => ⟨b, by simp, by rw [hbx]; exact h'⟩
                    have hws := WsRel.append (E := S.env D M w0 σ ν) (k := k) ⟨hxs.1, hxs.2⟩ hus
                    refine upTo_val (v := v') (w' := w') (by rw [hxv, hye]; exact hr) (lands_dyn (old := [b]) (row := (ν b).ownBlock) hR hA hun ho ⟨hws.1, hws.2⟩ (ownsL_one ho) hg hblk (fun g h' => ?_))
                    rcases hgo g h' with h'' | h''
                    · exact .inl h''
                    · exact .inr (hblk g h'')
                  · simp at h
                · simp at h
              · simp at h
            · simp at h
          · simp at h
        · simp at h
      · simp at h
    · exact sound_append nid x y t u ty S r l h hps M w0 a w hRA
  · simp at h

theorem zeroFits_spec {e : TypeId} {n : Nat} (h : zeroFits P e n = true) : ∃ i z, P.info? e = some i ∧ i.zero = some z ∧ z.cells.size = n := by
  unfold zeroFits at h
  split at h
  · rename_i z hz
    obtain ⟨i, hi, hzz⟩ := Option.bind_eq_some_iff.1 hz
    exact ⟨i, z, hi, hzz, Nat.eq_of_beq_eq_true h⟩
  · cases h

theorem info_of {e : TypeId} {i : TypeInfo} {s : Nat} (hi : P.info? e = some i) (hs : szOf P e = some s) : i.size = s := by
  obtain ⟨i', d, hi', hsz, hd⟩ := szOf_spec hs
  rw [hi] at hi'
  simp only [Option.some.injEq] at hi'
  subst hi'
  exact hsz

def flat (vs : List Value) : List Value := vs.flatMap fun v => v.cells.toList

theorem flat_len {s : Nat} : ∀ {vs : List Value}, (∀ v ∈ vs, v.cells.size = s) → (flat vs).length = vs.length * s
  | [], _ => by simp [flat]
  | v :: vs, h => by
    have ih := flat_len (vs := vs) (s := s) fun u hu => h u (List.mem_cons_of_mem _ hu)
    have hv := h v (List.mem_cons_self ..)
    simp only [flat, List.flatMap_cons, List.length_append, Array.length_toList, List.length_cons] at ih ⊢
    rw [ih, hv, Nat.add_mul, Nat.one_mul, Nat.add_comm]

theorem flat_get {s : Nat} : ∀ {vs : List Value}, (∀ v ∈ vs, v.cells.size = s) → ∀ (i : Nat) v, vs[i]? = some v → ((flat vs).drop (i * s)).take s = v.cells.toList
  | [], _, i, v, h => by simp at h
  | u :: vs, h, i, v, hi => by
    have hu := h u (List.mem_cons_self ..)
    have hul : u.cells.toList.length = s := by rw [Array.length_toList]; exact hu
    cases i with
    | zero =>
      simp only [List.getElem?_cons_zero, Option.some.injEq] at hi
      subst hi
      simp only [flat, List.flatMap_cons, Nat.zero_mul, List.drop_zero]
      rw [← hul, List.take_left]
    | succ i =>
      have ih := flat_get (vs := vs) (s := s) (fun w hw => h w (List.mem_cons_of_mem _ hw)) i v (by simpa using hi)
      simp only [flat, List.flatMap_cons] at ih ⊢
      rw [show (i + 1) * s = u.cells.toList.length + i * s from by rw [hul, Nat.add_mul]; omega, List.drop_length_add_append]
      exact ih

theorem fill_seqS (s : Nat) : ∀ (vs : List Value) (m : Nat) (cs : Array Value), cs.size = (m + vs.length) * s → (∀ v ∈ vs, v.cells.size = s) →
    Instr.fill (fun i => some (i * s, s)) cs (((List.range vs.length).map (m + ·)).zip vs) = some (cs.toList.take (m * s) ++ flat vs).toArray
  | [], m, cs, h, _ => by simp [Instr.fill, flat]; rw [List.take_of_length_le (by simp at h ⊢; omega)]
  | v :: vs, m, cs, h, h1 => by
    have hv := h1 v (List.mem_cons_self ..)
    simp only [List.length_cons] at h
    have hfit : m * s + s ≤ cs.size := by rw [h, ← Nat.succ_mul]; exact Nat.mul_le_mul_right _ (by omega)
    rw [List.length_cons, List.range_succ_eq_map]
    simp only [List.map_cons, List.map_map, Nat.add_zero, List.zip_cons_cons, Instr.fill]
    rw [if_neg (by simp [hv]; omega)]
    have e : (v.cells.zipIdx.foldl (fun cs (x : Value × Nat) => cs.setIfInBounds (m * s + x.2) x.1) cs).toList = cs.toList.take (m * s) ++ v.cells.toList ++ cs.toList.drop (m * s + s) := by
      rw [← Array.foldl_toList, Array.toList_zipIdx]
      have := foldl_set (m * s) v.cells.toList 0 cs (by simp [hv]; omega)
      simpa [hv] using this
    generalize hcs' : v.cells.zipIdx.foldl (fun cs (x : Value × Nat) => cs.setIfInBounds (m * s + x.2) x.1) cs = cs' at e
    have hsz : cs'.size = cs.size := by
      rw [← Array.length_toList, e]
      simp [hv]; omega
    have ih := fill_seqS s vs (m + 1) cs' (by rw [hsz, h]; congr 1; omega) (fun u hu => h1 u (List.mem_cons_of_mem _ hu))
    have e2 : (List.map ((fun x => m + x) ∘ Nat.succ) (List.range vs.length)) = (List.range vs.length).map (m + 1 + ·) := by
      apply List.map_congr_left
      intro x _
      show m + (x + 1) = m + 1 + x
      omega
    rw [e2, ih]
    congr 1
    apply congrArg List.toArray
    have hA : (cs.toList.take (m * s) ++ v.cells.toList).length = (m + 1) * s := by simp [hv, Nat.add_mul]; omega
    rw [e, ← hA, List.take_left]
    simp [flat]

theorem run_buildSliceS {t e : TypeId} {s : Nat} {parts : Array (Nat × Value)} {vs : List Value} {w : World} (ht : P.underlying t = some (.slice e)) (hs : szOf P e = some s) (hz : zeroFits P e s = true) (_ : 1 ≤ s)
    (hl : vs.length * s ≤ 16777216) (hparts : parts.toList = ((List.range vs.length).map (0 + ·)).zip vs) (h1 : ∀ v ∈ vs, v.cells.size = s) :
    (Instr.buildSlice t vs.length parts).run P w = .ok (.slice (some ⟨w.heap.size, 0, none⟩) vs.length vs.length) (w.alloc (.cells (flat vs).toArray e)) := by
  obtain ⟨i, z, hi, hiz, hzs⟩ := zeroFits_spec hz
  have hle : ¬ (16777216 < vs.length * s) := by omega
  have hf : ∀ Z : Array Value, Z.size = vs.length * s → Instr.fill (fun i => some (i * s, s)) Z parts.toList = some (flat vs).toArray := by
    intro Z hZ
    rw [hparts, fill_seqS s vs 0 Z (by rw [hZ, Nat.zero_add]) h1]
    simp
  unfold Instr.buildSlice
  by_cases h0 : vs.length * s = 0
  · simp only [Sem.run_bind, run_underlying ht, Result.andThen_ok, run_sizeOfB hs, h0]
    simp
    rw [hf _ (by simp [h0])]
    simp [newRow]
  · simp only [Sem.run_bind, run_underlying ht, Result.andThen_ok, run_sizeOfB hs]
    simp [hle, h0, zeroValue, typeInfo, hi, hiz]
    rw [hf _ (by simp)]
    simp [newRow]

theorem recsOf_rel {E : Env} {sh : List FK} : ∀ {i : Nat} {js : List Nat} {as : List (AV D.τ)} {ll : List Rec} {vs : List Value}, recsOf D sh i js as = some ll → AVsRel E as vs →
    js = (List.range vs.length).map (i + ·) ∧ vs.length = ll.length ∧ ∀ (k : Nat) r, ll[k]? = some r → ∃ cs : List Value, vs[k]? = some (.agg cs.toArray) ∧ RecRel E.σ sh 0 r cs
  | i, [], [], ll, vs, h, hv => by
    simp only [recsOf, Option.some.injEq] at h; subst h
    cases hv
    exact ⟨rfl, rfl, fun k r h => by simp at h⟩
  | i, [], _ :: _, ll, vs, h, hv => by simp [recsOf] at h
  | i, j :: js, [], ll, vs, h, hv => by simp [recsOf] at h
  | i, j :: js, x :: as, ll, vs, h, hv => by
    obtain ⟨v, us, rfl, h1, h2⟩ := hv
    rcases x with (p | ps) | as'
    · simp [recsOf] at h
    · simp only [recsOf] at h
      cases hb : Nat.beq i j <;> simp only [hb, cond_true, cond_false] at h
      · cases h
      have := Nat.eq_of_beq_eq_true hb
      subst this
      split at h
      · rename_i r0 hr0
        obtain ⟨ll', hll, rfl⟩ := Option.map_eq_some_iff.1 h
        obtain ⟨q1, q2, q3⟩ := recsOf_rel hll h2
        obtain ⟨cs, rfl, hp⟩ := h1
        refine ⟨?_, by simp [q2], fun k r hk => ?_⟩
        · rw [q1, List.length_cons, List.range_succ_eq_map]
          simp only [List.map_cons, List.map_map, Nat.add_zero, List.cons.injEq, true_and]
          apply List.map_congr_left
          intro x _
          show i + 1 + x = i + (x + 1)
          omega
        · cases k with
          | zero =>
            simp only [List.getElem?_cons_zero, Option.some.injEq] at hk
            subst hk
            exact ⟨cs, rfl, mkRec_sound [] hr0 hp⟩
          | succ k => exact q3 k r (by simpa using hk)
      · cases h
    · simp [recsOf] at h

theorem flat_lrs {E : Env} {sh : List FK} {ll : List Rec} {vs : List Value} (hl : vs.length = ll.length) (h : ∀ (k : Nat) r, ll[k]? = some r → ∃ cs : List Value, vs[k]? = some (.agg cs.toArray) ∧ RecRel E.σ sh 0 r cs) :
    (∀ v ∈ vs, v.cells.size = rsz sh) ∧ PartRel D E (.lrs sh ll) (flat vs) := by
  have h1 : ∀ v ∈ vs, v.cells.size = rsz sh := by
    intro v hv
    obtain ⟨k, hk⟩ := List.mem_iff_getElem?.1 hv
    have hlt : k < ll.length := by have := (List.getElem?_eq_some_iff.1 hk).1; omega
    obtain ⟨cs, e, hr⟩ := h k _ (List.getElem?_eq_getElem hlt)
    rw [hk] at e
    simp only [Option.some.injEq] at e
    subst e
    simpa [Value.cells] using hr.len
  refine ⟨h1, by rw [flat_len h1, hl], fun i r hi => ?_⟩
  obtain ⟨cs, e, hr⟩ := h i r hi
  rw [flat_get h1 i _ e]
  simpa [Value.cells] using hr

theorem recShape_spec {e : TypeId} {sh : List FK} (h : recShape P e = some sh) : szOf P e = some (rsz sh) ∧ 1 ≤ rsz sh := by
  unfold recShape at h
  cases hb : aggB P e <;> simp only [hb, cond_true, cond_false] at h
  · cases h
  split at h
  · rename_i sh' m n h1 h2
    cases hc : (Nat.beq n (rsz sh') && Nat.ble 1 n) <;> simp only [hc, cond_true, cond_false] at h
    · cases h
    simp only [Bool.and_eq_true] at hc
    simp only [Option.some.injEq] at h
    subst h
    have := Nat.eq_of_beq_eq_true hc.1
    subst this
    exact ⟨h2, Nat.le_of_ble_eq_true hc.2⟩
  · cases h

theorem sound_buildR (nid : Nat) (t : TypeId) (len : Nat) (parts : Array (Nat × Operand)) : Sound P D (oBuildR P D nid t len parts.toList) (fun ρ => do pure (.value (← Instr.buildSlice t len (parts.map fun (i, x) => (i, ρ x))))) := by
  intro S r l h hps M w0 a w hRA
  unfold oBuildR at h
  split at h
  · rename_i e ht
    split at h
    · rename_i sh hsh
      obtain ⟨σ, ν, hR, hA⟩ := hRA
      obtain ⟨as, l1, has, h⟩ := rdAs_run h
      have hvs := evalAs_rel hA has
      obtain ⟨l2, h⟩ := box_run h
      split at h
      · rename_i hun
        split at h
        · rename_i ll hll
          generalize hb : (Nat.beq ll.length len && (Nat.ble (len * rsz sh) 16777216 && zeroFits P e (rsz sh))) = bb at h
          cases bb <;> simp only [cond_true, cond_false, run_fail] at h
          simp only [run_ret] at h
          obtain ⟨rfl, _⟩ := h
          simp only [Bool.and_eq_true] at hb
          have h1 := Nat.eq_of_beq_eq_true hb.1
          have h2 := Nat.le_of_ble_eq_true hb.2.1
          obtain ⟨hsz, hpos⟩ := recShape_spec hsh
          obtain ⟨e2, e1, e3⟩ := recsOf_rel hll hvs
          generalize hvse : ((parts.toList.map (·.2)).map a.eval) = vs at hvs e1 e2 e3
          have hvl : vs.length = len := by rw [e1]; exact h1
          subst hvl
          obtain ⟨hcz, hlr⟩ := flat_lrs e1 e3
          have hparts : (parts.map fun (x : Nat × Operand) => (x.1, a.eval x.2)).toList = ((List.range vs.length).map (0 + ·)).zip vs := by
            rw [← e2, ← hvse, Array.toList_map]
            generalize parts.toList = L
            induction L with
            | nil => rfl
            | cons p L ih => simp [ih]
          have hrun := run_buildSliceS (P := P) (w := w) (parts := parts.map fun (x : Nat × Operand) => (x.1, a.eval x.2)) ht hsz hb.2.2 hpos h2 hparts hcz
          refine upTo_val hrun (lands_dynE (old := []) (row := none) (xs := flat vs) (n := vs.length) hR hA hun ?_ hlr rfl (World.grownBy_alloc _ _ _) (by simp) (fun g hg => .inl ?_))
          · refine ⟨flat_len hcz, .inr ⟨w.heap.size, vs.length, _, rfl, Nat.zero_le _, Go.heap_alloc_new w _, Nat.le_refl _, ?_, ?_, ?_⟩⟩
            · unfold maxLen
              have : vs.length ≤ vs.length * rsz sh := Nat.le_mul_of_pos_right _ hpos
              omega
            · show vs.length * rsz sh ≤ (flat vs).toArray.size
              rw [List.size_toArray, flat_len hcz]; exact Nat.le_refl _
            · exact List.take_of_length_le (by rw [List.toList_toArray, flat_len hcz]; exact Nat.le_refl _)
          · simp [Value.ownBlock] at hg; omega
        · simp at h
      · simp at h
    · exact sound_buildSlice2 nid t len parts S r _ h hps M w0 a w hRA
  · simp at h

/-- Records that are read: where they lie. -/
theorem recRows_sound {α : Type} {M : Mem} {w0 : World} {σ : Loc} {ν : Nat → Value} {S : St D.τ} {w : World} (hR : RR D M w0 σ ν S w) {e : TypeId} {sh : List FK} (hpos : 1 ≤ rsz sh) {q : Part D.τ} {f : List Rec → Rd D.τ α} {r : α} {l : List Ref} {v : Value}
    (h : (recRows D e sh q f).run S = some (r, l)) (hp : PartRel D (S.env D M w0 σ ν) q [v]) :
    ∃ ll l', (f ll).run S = some (r, l') ∧ ∃ ao cap us, v = .slice ao ll.length cap ∧ PartRel D (S.env D M w0 σ ν) (.lrs sh ll) us ∧ (ao = none → us = [] ∧ cap = 0) ∧ ∀ ad, ao = some ad → ∀ j u, us[j]? = some u → w.cell? (ad.add j) = some u := by
  have hnil : PartRel D (S.env D M w0 σ ν) (.lrs sh []) [] := ⟨by simp, fun i r h => by simp at h⟩
  unfold recRows at h
  split at h
  · simp only [PartRel, List.cons.injEq, and_true] at hp
    exact ⟨[], l, h, none, 0, [], hp, hnil, fun _ => ⟨rfl, rfl⟩, fun ad h => by cases h⟩
  · rename_i sh' ll
    cases hsh : shEq sh sh' <;> simp only [hsh, cond_true, cond_false, run_fail] at h
    have := shEq_eq hsh
    subst this
    obtain ⟨v', e1, ao, cap, e2, h1, h2, h3, h4⟩ := hp
    simp only [List.cons.injEq, and_true] at e1
    subst e1
    cases ao with
    | none =>
      have hc := h3 rfl
      have hl : ll = [] := List.eq_nil_of_length_eq_zero (by omega)
      subst hl
      subst hc
      exact ⟨[], l, h, none, 0, [], e2, hnil, fun _ => ⟨rfl, rfl⟩, fun ad h => by cases h⟩
    | some ad =>
      have hus : ∀ (j : Nat) u, ((List.range (ll.length * rsz sh)).map (fun j => (w.cell? (ad.add j)).getD undef))[j]? = some u → j < ll.length * rsz sh ∧ u = (w.cell? (ad.add j)).getD undef := by
        intro j u hu
        rw [List.getElem?_map] at hu
        by_cases hj : j < ll.length * rsz sh
        · rw [List.getElem?_range hj] at hu
          simp only [Option.map_some, Option.some.injEq] at hu
          exact ⟨hj, hu.symm⟩
        · rw [List.getElem?_eq_none (by simp; omega)] at hu; cases hu
      have key : ∀ (i : Nat) r, ll[i]? = some r → ∃ vs : List Value, RecRel σ sh 0 r vs ∧ ∀ j v, vs[j]? = some v → w.cell? (ad.add (i * rsz sh + j)) = some v := by
        intro i r hi
        obtain ⟨g, o, vs, q1, q2, q3, q4⟩ := h4 i r hi
        simp only [Option.some.injEq] at q1
        subst q1
        refine ⟨vs, q3, fun j v hv => ?_⟩
        rw [Addr.add_lit, ← Nat.add_assoc]
        exact zm_now hR q2 rfl (q4 j v hv)
      refine ⟨ll, l, h, some ad, cap, (List.range (ll.length * rsz sh)).map (fun j => (w.cell? (ad.add j)).getD undef), e2, ⟨by simp, fun i r hi => ?_⟩, (fun h => by cases h), fun ad' e j u hu => ?_⟩
      · obtain ⟨vs, q1, q2⟩ := key i r hi
        have hvl := q1.len
        have hle := le_rows (s := rsz sh) (List.getElem?_eq_some_iff.1 hi).1
        have : (((List.range (ll.length * rsz sh)).map (fun j => (w.cell? (ad.add j)).getD undef)).drop (i * rsz sh)).take (rsz sh) = vs := by
          apply List.ext_getElem?
          intro j
          by_cases hj : j < rsz sh
          · rw [List.getElem?_take_of_lt hj, List.getElem?_drop, List.getElem?_map, List.getElem?_range (by omega)]
            obtain ⟨x, hx⟩ : ∃ x, vs[j]? = some x := ⟨_, List.getElem?_eq_getElem (by omega)⟩
            rw [hx, Option.map_some, q2 j x hx, Option.getD_some]
          · rw [List.getElem?_eq_none (by rw [List.length_take]; omega), List.getElem?_eq_none (by omega)]
        rw [this]
        exact q1
      · simp only [Option.some.injEq] at e
        subst e
        obtain ⟨hj, rfl⟩ := hus j u hu
        have hdm := Nat.div_add_mod j (rsz sh)
        have hq : j / rsz sh < ll.length := by rw [Nat.div_lt_iff_lt_mul (by omega)]; exact hj
        have hm := Nat.mod_lt j (show 0 < rsz sh by omega)
        obtain ⟨vs, q1, q2⟩ := key _ _ (List.getElem?_eq_getElem hq)
        obtain ⟨x, hx⟩ : ∃ x, vs[j % rsz sh]? = some x := ⟨_, List.getElem?_eq_getElem (by rw [q1.len]; exact hm)⟩
        have hc := q2 _ x hx
        rw [Nat.mul_comm, hdm] at hc
        rw [hc, Option.getD_some]
  · rename_i c
    obtain ⟨l1, h⟩ := box_run h
    split at h
    · rename_i e' sh' ll hbx
      cases hsh : (Nat.beq e e' && shEq sh sh') <;> simp only [hsh, cond_true, cond_false, run_fail] at h
      simp only [Bool.and_eq_true] at hsh
      have := shEq_eq hsh.2
      subst this
      have hb := hR.boxes c
      rw [hbx] at hb
      obtain ⟨n, xs, hown, hxs, _⟩ := hb
      have hown' : w.ownsL 0 e' (rsz sh) (ν c) n xs := hown
      have hv : v = ν c := (List.cons.inj hp.2.2).1
      have hn : n = ll.length := by
        have := hown'.1
        rw [hxs.1] at this
        exact (Nat.eq_of_mul_eq_mul_right (by omega) this).symm
      subst hn
      rcases hown'.2 with ⟨hνe, h0⟩ | ⟨g, cap, cur, hνe, _, hcur, hnc, hcm, hcs, htk⟩
      · have hl : ll = [] := List.eq_nil_of_length_eq_zero h0
        subst hl
        exact ⟨[], _, h, none, 0, [], by rw [hv, hνe]; rfl, hnil, fun _ => ⟨rfl, rfl⟩, fun ad h => by cases h⟩
      · refine ⟨ll, _, h, some ⟨g, 0, none⟩, cap, xs, by rw [hv, hνe], hxs, (fun h => by cases h), fun ad e j u hu => ?_⟩
        simp only [Option.some.injEq] at e
        subst e
        exact hown'.cells (g := g) (by rw [hνe]; rfl) j u hu
    · simp at h
  · simp at h

theorem append_runS {t e ty : TypeId} {s : Nat} {w : World} {v : Value} {n m : Nat} {xs us : List Value} {ao : Option Addr} {cap' : Nat} (ht : P.underlying t = some (.slice e)) (hs : szOf P e = some s) (hz : zeroFits P e s = true) (hpos : 1 ≤ s)
    (hown : w.ownsL 0 e s v n xs) (hul : us.length = m * s) (hone : ∀ u ∈ us, u.oneCell' = true) (hnil : ao = none → us = [] ∧ cap' = 0) (hnews : ∀ ad, ao = some ad → ∀ j u, us[j]? = some u → w.cell? (ad.add j) = some u) (h63 : n + m ≤ 9223372036854775807) (hb : (n + m) * bytesOfT P e ≤ 140737488355328) :
    ∃ v' w', (Builtin.append_ #[t, t] ty #[v, .slice ao m cap']).run P w = .ok v' w' ∧ w'.ownsL 0 e s v' (n + m) (xs ++ us) ∧ w.grownBy w' v.ownBlock ∧
      ∀ g, v'.ownBlock = some g → w.heap.size ≤ g ∨ v.ownBlock = some g := by
  obtain ⟨i, z, hi, hiz, hzs⟩ := zeroFits_spec hz
  have hsz := info_of hi hs
  have hby : bytesOfT P e = i.bytes := by simp [bytesOfT, hi]
  rw [hby] at hb
  have hm : n + m ≤ maxLen := by unfold maxLen; omega
  cases ao with
  | none =>
    obtain ⟨hl, hc⟩ := hnil rfl
    subst hl
    subst hc
    have hm0 : m = 0 := by
      rcases Nat.eq_zero_or_pos m with h | h
      · exact h
      · have : 0 < m * s := Nat.mul_pos h (by omega)
        simp at hul; omega
    subst hm0
    have hr := run_append_ownedL_none (P := P) w 0 t ty e i s ht hi v n xs hown
    exact ⟨v, w, hr, by simpa using hown, World.grownBy.refl _ _, fun g hg => .inr hg⟩
  | some a =>
    have hnews := hnews a rfl
    rcases hown.2 with ⟨rfl, hn0⟩ | ⟨g, cap, cur, rfl, _, hcur, hnc, hcm, hcs, htk⟩
    · have hx : xs = [] := List.eq_nil_of_length_eq_zero (by rw [hown.1, hn0, Nat.zero_mul])
      subst hn0
      subst hx
      obtain ⟨v', w', hr, ho, hg, _⟩ := run_append_ownL (P := P) w w.heap.size t ty e i z s i.bytes ht hi hiz hsz rfl hzs (by omega) _ 0 [] (World.ownsL_nil w w.heap.size e s) a m cap' _ hul hnews hone hm hb (Nat.le_refl _)
      exact ⟨v', w', hr, ownsL_base ho (Nat.zero_le _), hg, fun g hgo => .inl (ho.lt g hgo).1⟩
    · obtain ⟨v', w', hr, ho, hg, _⟩ := run_append_ownL (P := P) w 0 t ty e i z s i.bytes ht hi hiz hsz rfl hzs (by omega) _ n xs hown a m cap' _ hul hnews hone hm hb (Nat.zero_le _)
      refine ⟨v', w', hr, ho, hg, fun g' hgo => ?_⟩
      by_cases hroom : n + m ≤ cap
      · obtain ⟨w2, hr2, _⟩ := run_append_fitsL (P := P) w 0 t ty e i s ht hi hsz g n cap xs hown a m cap' _ hul hnews hone hroom
        rw [hr] at hr2
        simp only [Result.ok.injEq] at hr2
        rw [hr2.1] at hgo
        exact .inr (by simpa [Value.ownBlock] using hgo)
      · have holds : ∀ j u, xs[j]? = some u → w.cell? ((⟨g, 0, none⟩ : Addr).add j) = some u := hown.cells (g := g) rfl
        have hr2 := run_append_grow (P := P) w t ty e i z ht hi hiz ⟨g, 0, none⟩ n cap xs (by rw [hsz]; exact hown.1) holds a m cap' _ (by rw [hsz]; exact hul) hnews (by omega) (by omega) (growslice_fits (by omega) hb)
        rw [hr] at hr2
        simp only [Result.ok.injEq] at hr2
        rw [hr2.1] at hgo
        simp [Value.ownBlock] at hgo
        exact .inl (by omega)

theorem lrs_append {E : Env} {sh : List FK} {xl ll : List Rec} {xs us : List Value} (h1 : PartRel D E (.lrs sh xl) xs) (h2 : PartRel D E (.lrs sh ll) us) : PartRel D E (.lrs sh (xl ++ ll)) (xs ++ us) := by
  refine ⟨by rw [List.length_append, List.length_append, h1.1, h2.1, Nat.add_mul], fun i r hi => ?_⟩
  by_cases hx : i < xl.length
  · rw [List.getElem?_append_left hx] at hi
    have hle := le_rows (s := rsz sh) hx
    have hl1 : xs.length = xl.length * rsz sh := h1.1
    rw [List.drop_append_of_le_length (by omega), List.take_append_of_le_length (by rw [List.length_drop]; omega)]
    exact h1.2 i r hi
  · rw [List.getElem?_append_right (by omega)] at hi
    have hl1 : xs.length = xl.length * rsz sh := h1.1
    rw [show i * rsz sh = xs.length + (i - xl.length) * rsz sh from by rw [hl1, ← Nat.add_mul]; congr 1; omega, List.drop_length_add_append]
    exact h2.2 _ r hi

theorem sound_appendR (nid : Nat) (x y : Operand) (t u ty : TypeId) : Sound P D (oAppendR P D nid x y t u) (fun ρ => valOf (Builtin.append_ #[t, u] ty #[ρ x, ρ y])) := by
  intro S r l h hps M w0 a w hRA
  unfold oAppendR at h
  split at h
  · rename_i e ht
    split at h
    · rename_i sh hsh
      obtain ⟨hs, hpos⟩ := recShape_spec hsh
      obtain ⟨σ, ν, hR, hA⟩ := hRA
      cases hb : (Nat.beq t u && zeroFits P e (rsz sh)) <;> simp only [hb, cond_true, cond_false, run_fail] at h
      simp only [Bool.and_eq_true] at hb
      have htu := Nat.eq_of_beq_eq_true hb.1
      subst htu
      obtain ⟨av, l0, hav, h⟩ := rdA_run h
      have hx := evalA_rel hA hav
      split at h
      · rename_i p
        obtain ⟨bv, l1, hbv, h⟩ := rdA_run h
        have hy := evalA_rel hA hbv
        split at h
        · rename_i q
          obtain ⟨ll, l2, h, ao, cap, us, hye, hus, hnil, hnews⟩ := recRows_sound hR hpos h hy.2
          obtain ⟨l3, h⟩ := box_run h
          split at h
          · rename_i hun
            split at h
            · simp only [run_ret] at h
              obtain ⟨rfl, _⟩ := h
              have hxv : a.eval x = .slice none 0 0 := by have := hx.2; simpa [PartRel] using this
              have b2 : ll.length * bytesOfT P e ≤ 140737488355328 := hps _ (by simp)
              have b1 : ll.length ≤ 9223372036854775807 := hps _ (by simp)
              obtain ⟨v', w', hr, ho, hg, hgo⟩ := append_runS (P := P) (ty := ty) (w := w) (v := .slice none 0 0) (n := 0) (m := ll.length) (xs := []) (us := us) (cap' := cap) ht hs hb.2 hpos (World.ownsL_nil _ _ _ _) hus.1 (fun u hu => hus.oneCell u hu) hnil hnews (by omega) (by rw [Nat.zero_add]; exact b2)
              simp only [List.nil_append, Nat.zero_add] at ho
              refine upTo_val (v := v') (w' := w') (by rw [hxv, hye]; exact hr) (lands_dynE (old := []) (row := none) hR hA hun ho hus (ownsL_one ho) hg (by simp) (fun g h' => .inl ?_))
              rcases hgo g h' with h'' | h''
              · exact h''
              · simp [Value.ownBlock] at h''
            · rename_i b _ _ _
              obtain ⟨l4, h⟩ := box_run h
              have hbb := hR.boxes b
              split at h
              · rename_i e' sh' xl hbx
                generalize hbe : (Nat.beq e e' && shEq sh sh') = be at h
                cases be <;> simp only [cond_true, cond_false, run_fail] at h
                simp only [Bool.and_eq_true] at hbe
                have hee := Nat.eq_of_beq_eq_true hbe.1
                subst hee
                have := shEq_eq hbe.2
                subst this
                simp only [run_ret] at h
                obtain ⟨rfl, _⟩ := h
                have b2 : (xl.length + ll.length) * bytesOfT P e ≤ 140737488355328 := hps _ (by simp)
                have b1 : xl.length + ll.length ≤ 9223372036854775807 := hps _ (by simp)
                rw [hbx] at hbb
                obtain ⟨n, xs, hown, hxs, _⟩ := hbb
                have hown : w.ownsL 0 e (rsz sh) _ n xs := hown
                have hn : n = xl.length := by
                  have := hown.1
                  rw [hxs.1] at this
                  exact (Nat.eq_of_mul_eq_mul_right (by omega) this).symm
                subst hn
                have hxv : a.eval x = ν b := by
                  have h9 : [a.eval x] = [ν b] := hx.2.2.2
                  simpa using h9
                obtain ⟨v', w', hr, ho, hg, hgo⟩ := append_runS (P := P) (ty := ty) (w := w) (v := ν b) (m := ll.length) (us := us) (cap' := cap) ht hs hb.2 hpos hown hus.1 (fun u hu => hus.oneCell u hu) hnil hnews b1 b2
                have hblk : ∀ g, (ν b).ownBlock = some g → ∃ b' ∈ [b], Fp D (S.env D M w0 σ ν) b' (S.box b') g := fun g h' => ⟨b, by simp, by rw [hbx]; exact h'⟩
                refine upTo_val (v := v') (w' := w') (by rw [hxv, hye]; exact hr) (lands_dynE (old := [b]) (row := (ν b).ownBlock) hR hA hun ho (lrs_append hxs hus) (ownsL_one ho) hg hblk (fun g h' => ?_))
                rcases hgo g h' with h'' | h''
                · exact .inl h''
                · exact .inr (hblk g h'')
              · simp at h
            · simp at h
          · simp at h
        · simp at h
      · simp at h
    · exact sound_append2 nid x y t u ty S r _ h hps M w0 a w hRA
  · simp at h

theorem rs_sub {τ : Loc} {sh : List FK} {ll : List Rec} {ao : Option Addr} {n cap : Nat} {x y : Int} (h : RsRel τ sh ll (.slice ao n cap)) (h0 : 0 ≤ x) (h1 : x ≤ y) (h2 : y ≤ ll.length) :
    RsRel τ sh ((ll.take y.toNat).drop x.toNat) (sliced ao x.toNat y.toNat cap (rsz sh)) := by
  obtain ⟨ao', cap', e, g1, g2, g0, g3⟩ := h
  simp only [Value.slice.injEq] at e
  obtain ⟨rfl, rfl, rfl⟩ := e
  have hlen : ((ll.take y.toNat).drop x.toNat).length = y.toNat - x.toNat := by simp; omega
  refine ⟨if cap = x.toNat then ao else ao.map (·.add (x.toNat * rsz sh)), cap - x.toNat, ?_, by rw [hlen]; omega, by omega, ?_, ?_⟩
  · rw [hlen]; rfl
  · intro hn
    have : ao = none := by
      split at hn
      · exact hn
      · simpa using hn
    have := g0 this
    omega
  · intro i r hi
    have hil : i < y.toNat - x.toNat := by rw [← hlen]; exact (List.getElem?_eq_some_iff.1 hi).1
    rw [List.getElem?_drop, List.getElem?_take_of_lt (by omega)] at hi
    obtain ⟨g, o, vs, e1, e2, e3, e4⟩ := g3 (x.toNat + i) r hi
    subst e1
    refine ⟨g, o + x.toNat * rsz sh, vs, ?_, e2, e3, fun j v hv => ?_⟩
    · rw [if_neg (by omega)]
      simp [Addr.add_lit]
    · rw [← e4 j v hv, Nat.add_mul]
      congr 2
      omega

theorem sound_sliceR (Γ : Gam D) (nid : Nat) (dst : Option Tmp) (t : TypeId) (x : Operand) (lo hi : Option Operand) : Sound P D (oSliceR P D Γ nid dst t x lo hi) (fun ρ => do pure (.value (← Instr.sliceAt t (ρ x) (lo.map ρ) (hi.map ρ) none))) := by
  intro S r l h hps M w0 a w hRA
  unfold oSliceR at h
  obtain ⟨av, l0, hav, h⟩ := rdA_run h
  split at h
  · rename_i sh ll
    obtain ⟨σ, ν, hR, hA⟩ := hRA
    obtain ⟨hone, v, e1, hrs⟩ := evalA_rel hA hav
    simp only [List.cons.injEq, and_true] at e1
    subst e1
    split at h
    · rename_i e ht
      split at h
      · rename_i n hsz
        cases hb : Nat.beq n (rsz sh) <;> simp only [hb, cond_true, cond_false, run_fail] at h
        have := Nat.eq_of_beq_eq_true hb
        subst this
        have hrs' := hrs
        obtain ⟨ao, cap, hv, g1, g2, g0, g3⟩ := hrs'
        have fin : ∀ {p q : Int} {lx : List Ref}, (ok1 (.prs sh ((ll.take q.toNat).drop p.toNat)) [0 ≤ p, p ≤ q, q ≤ ll.length] : Rd D.τ (Res D.τ)).run S = some (r, lx) → Bnd 0 (lo.map a.eval) p → Bnd ll.length (hi.map a.eval) q →
            UpTo P (Lands M w0 S a r) ((do pure (Next.value (← Instr.sliceAt t (a.eval x) (lo.map a.eval) (hi.map a.eval) none)) : Sem Next).run P w) := by
          intro p q lx h b1 b2
          have hr := ok1_run h
          subst hr
          have h0 : 0 ≤ p := hps _ (by simp)
          have h1 : p ≤ q := hps _ (by simp)
          have h2 : q ≤ ll.length := hps _ (by simp)
          have hsub := rs_sub (by rw [← hv]; exact hrs) h0 h1 h2
          refine upTo_val (w' := w) (v := sliced ao p.toNat q.toNat cap (rsz sh)) ?_ (lands_pure hR hA ⟨rfl, _, rfl, hsub⟩)
          rw [hv]
          exact run_slice_bnd ht hsz b1 b2 h0 h1 (by omega)
        rcases bnd_run h with ⟨l2, e2, h2⟩ | ⟨y1, kd1, lt1, i1, l2, e2, hy1, h2⟩
        · rcases bnd_run h2 with ⟨l3, e3, h3⟩ | ⟨y2, kd2, lt2, i2, l3, e3, hy2, h3⟩
          · exact fin h3 (by rw [e2]; exact Bnd.none) (by rw [e3]; exact Bnd.none)
          · exact fin h3 (by rw [e2]; exact Bnd.none) (by rw [e3]; exact bnd_value hA hy2)
        · rcases bnd_run h2 with ⟨l3, e3, h3⟩ | ⟨y2, kd2, lt2, i2, l3, e3, hy2, h3⟩
          · exact fin h3 (by rw [e2]; exact bnd_value hA hy1) (by rw [e3]; exact Bnd.none)
          · exact fin h3 (by rw [e2]; exact bnd_value hA hy1) (by rw [e3]; exact bnd_value hA hy2)
      · simp at h
    · simp at h
  · rename_i b
    obtain ⟨l1, h⟩ := box_run h
    split at h
    · rename_i e sh ll hbx
      obtain ⟨σ, ν, hR, hA⟩ := hRA
      obtain ⟨hone, hal, h1c, hv⟩ := evalA_rel hA hav
      simp only [List.cons.injEq, and_true] at hv
      have hv' : a.eval x = ν b := hv
      have hbb := hR.boxes b
      rw [hbx] at hbb
      obtain ⟨n', xs, hown, hp, _⟩ := hbb
      have hown' : w.ownsL 0 e (rsz sh) (ν b) n' xs := hown
      split at h
      · rename_i e' y ht _ _
        split at h
        · rename_i n hsz
          cases hb : Nat.beq n (rsz sh) <;> simp only [hb, cond_true, cond_false, run_fail] at h
          have := Nat.eq_of_beq_eq_true hb
          subst this
          obtain ⟨ay, l2, hay, h⟩ := rdA_run h
          split at h
          · rename_i kd lt q
            obtain ⟨l3, h⟩ := box_run h
            split at h
            · rename_i hun
              simp only [run_ret] at h
              obtain ⟨rfl, _⟩ := h
              have h0 : 0 ≤ q := hps _ (by simp)
              have h1 : q ≤ ll.length := hps _ (by simp)
              have hxl := hown'.1
              have hll : ll.length * rsz sh = n' * rsz sh := by rw [← hxl]; exact hp.1.symm
              obtain ⟨v, hrun, hvo, hvb, hv1⟩ : ∃ v, (Instr.sliceAt t (ν b) none (some (a.eval y)) none).run P w = .ok v w ∧ w.ownsL 0 e (rsz sh) v q.toNat (xs.take (q.toNat * rsz sh)) ∧ v.ownBlock = (ν b).ownBlock ∧ v.oneCell' = true := by
                rcases hown'.2 with ⟨hn, hz⟩ | ⟨g, cap, cur, hνe, _, hcur, hnc, hcm, hcs, htk⟩
                · subst hz
                  have hx0 : xs = [] := List.eq_nil_of_length_eq_zero (by rw [hxl, Nat.zero_mul])
                  subst hx0
                  by_cases hq : q = 0
                  · subst hq
                    rw [hn]
                    refine ⟨.slice none 0 0, ?_, ⟨by simp, .inl ⟨rfl, rfl⟩⟩, rfl, rfl⟩
                    have := run_slice_bnd (P := P) (ao := none) (len := 0) (cap := 0) (lo := none) (w := w) ht hsz (Bnd.none (d := 0)) (bnd_value hA hay) (Int.le_refl _) (Int.le_refl _) (by simp)
                    simpa [sliced] using this
                  · exfalso
                    have hl0 : rsz sh = 0 := by
                      have : ll.length * rsz sh = 0 := by rw [hll, Nat.zero_mul]
                      rcases Nat.mul_eq_zero.1 this with h | h
                      · omega
                      · exact h
                    have h4 : 1 ≤ rsz sh := hps _ (by simp)
                    omega
                · have hn' : ll.length = n' := Nat.eq_of_mul_eq_mul_right (show 0 < rsz sh from hps (1 ≤ rsz sh) (by simp)) hll
                  rw [hνe]
                  refine ⟨.slice (some ⟨g, 0, none⟩) q.toNat cap, ?_, ⟨?_, .inr ⟨g, cap, cur, rfl, Nat.zero_le _, hcur, by omega, hcm, hcs, ?_⟩⟩, rfl, rfl⟩
                  · have := run_slice_bnd (P := P) (ao := some ⟨g, 0, none⟩) (len := n') (cap := cap) (lo := none) (w := w) ht hsz (Bnd.none (d := 0)) (bnd_value hA hay) (Int.le_refl _) h0 (by omega)
                    simpa [sliced, Addr.add] using this
                  · rw [List.length_take, hxl]
                    exact Nat.min_eq_left (Nat.mul_le_mul_right _ (by omega))
                  · rw [← htk, List.take_take, Nat.min_eq_left (Nat.mul_le_mul_right _ (by omega))]
              refine upTo_val (v := v) (w' := w) ?_ (lands_dynE (old := [b]) (row := none) (p := .lrs sh (ll.take q.toNat)) hR hA hun hvo ⟨?_, fun i rr hi => ?_⟩ hv1 (World.grownBy.refl _ _) (by simp) (fun g hg => .inr ⟨b, by simp, ?_⟩))
              · rw [hv']; exact hrun
              · rw [List.length_take, List.length_take, hp.1, Nat.min_eq_left (Nat.mul_le_mul_right _ (by omega)), Nat.min_eq_left (by omega)]
              · rw [List.getElem?_take] at hi
                split at hi
                · rename_i hiq
                  have := hp.2 i rr hi
                  have hle := le_rows (s := rsz sh) hiq
                  rw [List.drop_take, List.take_take, Nat.min_eq_left (by omega)]
                  exact this
                · cases hi
              · rw [hbx]; show (ν b).ownBlock = some g; rw [← hvb]; exact hg
            · simp at h
          · simp at h
        · simp at h
      · rename_i e' y ht _ _
        split at h
        · rename_i n hsz
          cases hb : (Nat.beq n (rsz sh) && Nat.ble 1 n) <;> simp only [hb, cond_true, cond_false, run_fail] at h
          simp only [Bool.and_eq_true] at hb
          have := Nat.eq_of_beq_eq_true hb.1
          subst this
          have hpos := Nat.le_of_ble_eq_true hb.2
          obtain ⟨ay, l2, hay, h⟩ := rdA_run h
          split at h
          · rename_i kd lt q
            have hr := ok1_run h
            subst hr
            have h0 : 0 ≤ q := hps _ (by simp)
            have h1 : q ≤ ll.length := hps _ (by simp)
            have h2 : 0 < ll.length := hps _ (by simp)
            have hn' : ll.length = n' := by
              have := hown'.1
              rw [hp.1] at this
              exact Nat.eq_of_mul_eq_mul_right (by omega) this
            rcases hown'.2 with ⟨hn, hz⟩ | ⟨g, cap, cur, hνe, _, hcur, hnc, hcm, hcs, htk⟩
            · omega
            have hrun := run_slice_bnd (P := P) (ao := some ⟨g, 0, none⟩) (len := n') (cap := cap) (hi := none) (w := w) ht hsz (bnd_value (d := 0) hA hay) (Bnd.none (d := n')) h0 (by omega) (by omega)
            have ho : ∃ o, (0 < ll.length - q.toNat → o = q.toNat * rsz sh) ∧ sliced (some ⟨g, 0, none⟩) q.toNat ((n' : Int).toNat) cap (rsz sh) = .slice (some ⟨g, o, none⟩) (ll.length - q.toNat) (cap - q.toNat) := by
              unfold sliced
              by_cases hc : cap = q.toNat
              · refine ⟨0, fun hlt => by omega, ?_⟩
                rw [if_pos hc, Int.toNat_natCast, hn']
              · refine ⟨q.toNat * rsz sh, fun _ => rfl, ?_⟩
                rw [if_neg hc, Int.toNat_natCast, hn']
                simp [Addr.add_lit]
            obtain ⟨o, ho1, ho2⟩ := ho
            refine upTo_val (w' := w) (v := .slice (some ⟨g, o, none⟩) (ll.length - q.toNat) (cap - q.toNat)) ?_ (lands_pure hR hA ⟨rfl, by show (S.box b).al; rw [hbx]; trivial, g, n', cap, cap - q.toNat, hνe, by omega, by omega, by omega, o, ho1, rfl⟩)
            rw [hv', hνe, ← ho2]
            exact hrun
          · simp at h
        · simp at h
      · simp at h
    · exact sound_slice2 Γ nid dst t x lo hi S r _ h hps M w0 a w hRA
  · exact sound_slice2 Γ nid dst t x lo hi S r _ h hps M w0 a w hRA

theorem run_ptr_nil {t e : TypeId} {ao : Option Addr} {w : World} (ht : P.underlying t = some (.pointer e)) : (Op.equal t (.pointer ao) (.pointer none)).run P w = .ok ao.isNone w := by
  unfold Op.equal Op.maxDepth Op.equalIn
  cases ao <;> simp [run_underlying ht]

theorem run_eq_ptr {op : BinOp} {t e : TypeId} {x y : Operand} {ao : Option Addr} {w : World} (ht : P.underlying t = some (.pointer e)) (hop : op = .eql ∨ op = .neq) :
    (do eqGuard op t x y (.pointer ao) (.pointer none); binOp op t (.pointer ao) (.pointer none) : Sem Value).run P w = .ok (.bool (bif op == .eql then ao.isNone else !ao.isNone)) w := by
  rcases hop with rfl | rfl
  · simp [eqGuard, binOp, run_ptr_nil ht]
  · simp [eqGuard, binOp, run_ptr_nil ht]
    rfl

theorem sound_bin2 (op : BinOp) (t : TypeId) (x y : Operand) : Sound P D (oBin2 P D op t x y) (fun ρ => valOf (do eqGuard op t x y (ρ x) (ρ y); binOp op t (ρ x) (ρ y))) := by
  intro S r l h hps M w0 a w hRA
  unfold oBin2 at h
  obtain ⟨av, bv, l0, hav, hbv, h⟩ := pair_run h
  split at h
  · obtain ⟨σ, ν, hR, hA⟩ := hRA
    obtain ⟨_, _, hv⟩ := evalA_rel hA hav
    obtain ⟨_, hu⟩ := evalA_rel hA hbv
    simp only [List.cons.injEq, and_true, PartRel] at hv hu
    split at h
    · rename_i ht _
      have hr := ok1_run h
      subst hr
      refine upTo_val (w' := w) ?_ (lands_pure hR hA rel_bool)
      rw [hv, hu]
      exact run_eq_ptr ht (.inl rfl)
    · rename_i ht _
      have hr := ok1_run h
      subst hr
      refine upTo_val (w' := w) ?_ (lands_pure hR hA rel_bool)
      rw [hv, hu]
      exact run_eq_ptr ht (.inr rfl)
    · simp at h
  · obtain ⟨σ, ν, hR, hA⟩ := hRA
    obtain ⟨_, hv⟩ := evalA_rel hA hav
    obtain ⟨_, hu⟩ := evalA_rel hA hbv
    simp only [List.cons.injEq, and_true, PartRel] at hv hu
    split at h
    · rename_i ht _
      have hr := ok1_run h
      subst hr
      refine upTo_val (w' := w) ?_ (lands_pure hR hA rel_bool)
      rw [hv, hu]
      exact run_eq_ptr ht (.inl rfl)
    · rename_i ht _
      have hr := ok1_run h
      subst hr
      refine upTo_val (w' := w) ?_ (lands_pure hR hA rel_bool)
      rw [hv, hu]
      exact run_eq_ptr ht (.inr rfl)
    · simp at h
  · rename_i sh ll
    obtain ⟨σ, ν, hR, hA⟩ := hRA
    obtain ⟨_, v, hv, hrs⟩ := evalA_rel hA hav
    obtain ⟨_, hu⟩ := evalA_rel hA hbv
    simp only [List.cons.injEq, and_true, PartRel] at hv hu
    obtain ⟨ao, cap, hvs, _, _, _, g3⟩ := hrs
    have hsome : 0 < ll.length → ∃ ad, ao = some ad := fun h0 => by
      obtain ⟨g, o, vs, e, _⟩ := g3 0 ll[0] (List.getElem?_eq_getElem h0)
      exact ⟨_, e⟩
    split at h
    · rename_i ht _
      have hr := ok1_run h
      subst hr
      obtain ⟨ad, rfl⟩ := hsome (hps (0 < ll.length) (by simp))
      refine upTo_val (w' := w) ?_ (lands_pure hR hA rel_bool)
      rw [hv, hu, hvs]
      exact run_eq_slice ht (.inl rfl)
    · rename_i ht _
      have hr := ok1_run h
      subst hr
      obtain ⟨ad, rfl⟩ := hsome (hps (0 < ll.length) (by simp))
      refine upTo_val (w' := w) ?_ (lands_pure hR hA rel_bool)
      rw [hv, hu, hvs]
      exact run_eq_slice ht (.inr rfl)
    · simp at h
  · exact sound_bin op t x y S r _ h hps M w0 a w hRA

theorem sound_min {ts : Array TypeId} {ty : TypeId} (x y : Operand) : Sound P D (oMin D x y) (fun ρ => valOf (Builtin.min_ ts ty #[ρ x, ρ y])) := by
  intro S r l h hps M w0 a w ⟨σ, ν, hR, hA⟩
  unfold oMin at h
  obtain ⟨ax, ay, l1, hax, hay, h⟩ := pair_run h
  split at h
  · rename_i k1 b1 m k2 b2 n
    have hx1 : a.eval x = .int k1 m := by simpa [PartRel] using (evalA_rel hA hax).2
    have hy1 : a.eval y = .int k2 n := by simpa [PartRel] using (evalA_rel hA hay).2
    have hr := ok1_run h
    subst hr
    refine upTo_val (w' := w) (v := .int k1 (if n < m then n else m)) ?_ (lands_pure hR hA ⟨rfl, rfl⟩)
    rw [hx1, hy1]
    simp [Builtin.min_, Builtin.min2]
  · simp at h

theorem sound_makeIface (t : TypeId) (x : Operand) : Sound P D (oMakeIface P D t x) (fun ρ => do pure (.value (← Instr.makeInterface t (ρ x)))) := by
  intro S r l h hps M w0 a w ⟨σ, ν, hR, hA⟩
  unfold oMakeIface at h
  obtain ⟨av, l0, hav, h⟩ := rdA_run h
  have hx := evalA_rel hA hav
  split at h
  · rename_i b off
    split at h
    · rename_i e ht
      have hr := ok1_run h
      subst hr
      obtain ⟨_, hal, hv⟩ := hx
      simp only [List.cons.injEq, and_true] at hv
      refine upTo_val (w' := w) (v := .iface t (.pointer (some ⟨σ b, off, none⟩))) ?_ (lands_pure hR hA ⟨rfl, hal, rfl⟩)
      rw [hv]
      simp [Instr.makeInterface, run_underlying ht]
      rfl
    · simp at h
  · rename_i ps
    split at h
    · rename_i sh hsh
      split at h
      · rename_i rc hrc
        have hr := ok1_run h
        subst hr
        obtain ⟨cs, hv, hp⟩ := hx
        have hrec := mkRec_sound [] hrc hp
        refine upTo_val (w' := w) (v := .iface t (.agg cs.toArray)) ?_ (lands_pure hR hA ⟨rfl, cs, rfl, hrec⟩)
        rw [hv]
        have hagg : aggB P t = true := by
          unfold recShape at hsh
          cases hb : aggB P t <;> simp only [hb, cond_true, cond_false] at hsh
          · cases hsh
          · rfl
        unfold aggB at hagg
        split at hagg
        · rename_i fs ht; simp [Instr.makeInterface, run_underlying ht]
        · rename_i n e ht; simp [Instr.makeInterface, run_underlying ht]
        · cases hagg
      · simp at h
    · simp at h
  · simp at h

theorem run_typeAssert {u xt : TypeId} {ok : Bool} {v : Value} {w : World} (hi : ifaceB P u = false) : (Instr.typeAssert (.iface u v) xt u ok).run P w = .ok (if ok then .tuple #[v, .bool true] else v) w := by
  have hd : ∃ d, P.underlying u = some d ∧ ∀ ms, d ≠ .interface ms := by
    unfold ifaceB at hi
    split at hi
    · cases hi
    · rename_i d h2 hd; exact ⟨d, hd, fun ms e => h2 ms e⟩
    · cases hi
  obtain ⟨d, hd, hni⟩ := hd
  unfold Instr.typeAssert
  simp only [Sem.run_bind, run_underlying hd, Result.andThen_ok]
  cases d <;> first | exact absurd rfl (hni _) | simp

theorem sound_typeAssert (x : Operand) (xt t : TypeId) (ok : Bool) : Sound P D (oTypeAssert P D x t ok) (fun ρ => do pure (.value (← Instr.typeAssert (ρ x) xt t ok))) := by
  cases ok
  all_goals
    intro S r l h hps M w0 a w ⟨σ, ν, hR, hA⟩
    unfold oTypeAssert at h
    cases hi : ifaceB P t <;> simp only [hi, cond_true, cond_false, run_fail] at h
    obtain ⟨av, l0, hav, h⟩ := rdA_run h
    have hx := evalA_rel hA hav
    split at h
    case h_2 => simp at h
    rename_i u sh rc
    generalize hb : Nat.beq u t = bb at h
    cases bb <;> simp only [cond_true, cond_false, run_fail, run_ret] at h
    obtain ⟨rfl, _⟩ := h
    have := Nat.eq_of_beq_eq_true hb
    subst this
    obtain ⟨_, vs, hv, hrec⟩ := hx
    simp only [List.cons.injEq, and_true] at hv
  · refine upTo_val (w' := w) (v := .agg vs.toArray) ?_ (lands_pure hR hA ⟨vs, rfl, recParts_rel.2 hrec⟩)
    rw [hv, run_typeAssert hi]; rfl
  · refine upTo_val (w' := w) (v := .tuple #[.agg vs.toArray, .bool true]) ?_ (lands_pure hR hA ⟨[.agg vs.toArray, .bool true], rfl, _, _, rfl, ⟨vs, rfl, recParts_rel.2 hrec⟩, _, _, rfl, ⟨rfl, rfl⟩, rfl⟩)
    rw [hv, run_typeAssert hi]; rfl

theorem sound_max {ts : Array TypeId} {ty : TypeId} (x y : Operand) : Sound P D (oMax D x y) (fun ρ => valOf (Builtin.max_ ts ty #[ρ x, ρ y])) := by
  intro S r l h hps M w0 a w ⟨σ, ν, hR, hA⟩
  unfold oMax at h
  obtain ⟨ax, ay, l1, hax, hay, h⟩ := pair_run h
  split at h
  · rename_i k1 b1 m k2 b2 n
    have hx1 : a.eval x = .int k1 m := by simpa [PartRel] using (evalA_rel hA hax).2
    have hy1 : a.eval y = .int k2 n := by simpa [PartRel] using (evalA_rel hA hay).2
    have hr := ok1_run h
    subst hr
    refine upTo_val (w' := w) (v := .int k1 (if n > m then n else m)) ?_ (lands_pure hR hA ⟨rfl, rfl⟩)
    rw [hx1, hy1]
    simp [Builtin.max_, Builtin.max2]
  · simp at h

theorem sound_min3 {ts : Array TypeId} {ty : TypeId} (x y z : Operand) : Sound P D (oMin3 D x y z) (fun ρ => valOf (Builtin.min_ ts ty #[ρ x, ρ y, ρ z])) := by
  intro S r l h hps M w0 a w ⟨σ, ν, hR, hA⟩
  unfold oMin3 at h
  obtain ⟨ax, ay, l1, hax, hay, h⟩ := pair_run h
  obtain ⟨az, l2, haz, h⟩ := rdA_run h
  split at h
  · rename_i k1 b1 m k2 b2 n k3 b3 o _
    have hx1 : a.eval x = .int k1 m := by simpa [PartRel] using (evalA_rel hA hax).2
    have hy1 : a.eval y = .int k2 n := by simpa [PartRel] using (evalA_rel hA hay).2
    have hz1 : a.eval z = .int k3 o := by simpa [PartRel] using (evalA_rel hA haz).2
    have hr := ok1_run h
    subst hr
    refine upTo_val (w' := w) (v := .int k1 (if o < (if n < m then n else m) then o else (if n < m then n else m))) ?_ (lands_pure hR hA ⟨rfl, rfl⟩)
    rw [hx1, hy1, hz1]
    simp [Builtin.min_, Builtin.min2]
  · simp at h

theorem run_eqGuard_str (op : BinOp) (t : TypeId) (x y : Operand) (m n : ByteArray) (w : World) : (eqGuard op t x y (.string m) (.string n)).run P w = .ok () w := by
  unfold eqGuard
  cases op <;> simp

theorem run_str {op : BinOp} {t : TypeId} {x y : Operand} {s u : ByteArray} {w : World} (h1 : op ≠ .shl) (h2 : op ≠ .shr) :
    (do eqGuard op t x y (.string s) (.string u); binOp op t (.string s) (.string u) : Sem Value).run P w = (Op.stringOp op s u).run P w := by
  simp only [Sem.run_bind, run_eqGuard_str, Result.andThen_ok]
  cases op <;> first | rfl | exact absurd rfl h1 | exact absurd rfl h2

theorem run_map_nil {t kt vt : TypeId} {g : Nat} {w : World} (ht : P.underlying t = some (.map kt vt)) : (Op.equal t (.map (some g)) (.map none)).run P w = .ok false w := by
  unfold Op.equal Op.maxDepth Op.equalIn
  simp [run_underlying ht]

theorem run_eq_map {op : BinOp} {t kt vt : TypeId} {x y : Operand} {g : Nat} {w : World} (ht : P.underlying t = some (.map kt vt)) (hop : op = .eql ∨ op = .neq) :
    (do eqGuard op t x y (.map (some g)) (.map none); binOp op t (.map (some g)) (.map none) : Sem Value).run P w = .ok (.bool (bif op == .eql then false else true)) w := by
  rcases hop with rfl | rfl
  · simp [eqGuard, binOp, run_map_nil ht]
  · simp [eqGuard, binOp, run_map_nil ht]

theorem ba_eq {s t : ByteArray} : (s.toList == t.toList) = decide (s = t) := by
  rw [Bool.eq_iff_iff]
  simp only [beq_iff_eq, decide_eq_true_eq]
  refine ⟨fun h => ?_, fun h => by rw [h]⟩
  have : s.data.toList = t.data.toList := by rw [← ByteArray.toList_eq, ← ByteArray.toList_eq, h]
  exact ByteArray.ext (Array.toList_inj.1 this)

theorem sound_bin3 (op : BinOp) (t : TypeId) (x y : Operand) : Sound P D (oBin3 P D op t x y) (fun ρ => valOf (do eqGuard op t x y (ρ x) (ρ y); binOp op t (ρ x) (ρ y))) := by
  intro S r l h hps M w0 a w hRA
  unfold oBin3 at h
  obtain ⟨ax, ay, l1, hax, hay, h⟩ := pair_run h
  split at h
  · rename_i s u
    split at h
    · rename_i ht
      obtain ⟨σ, ν, hR, hA⟩ := hRA
      have hx1 : a.eval x = .string s := by simpa [PartRel] using (evalA_rel hA hax).2
      have hy1 : a.eval y = .string u := by simpa [PartRel] using (evalA_rel hA hay).2
      unfold strOp at h
      split at h
      case h_8 => simp at h
      all_goals
        have hr := ok1_run h
        subst hr
      · have hd : ((s.size + u.size : Nat) : Int) ≤ 9223372036854775807 := hps _ (by simp)
        refine upTo_val (w' := w) (v := .string (s ++ u)) ?_ (lands_pure hR hA ⟨rfl, rfl⟩)
        rw [hx1, hy1, run_str (fun h => by cases h) (fun h => by cases h)]
        simp only [Op.stringOp]
        rw [if_neg (by show ¬ _ > (9223372036854775807 : Int); omega)]
        rfl
      all_goals
        refine upTo_val (w' := w) (v := .bool _) ?_ (lands_pure hR hA ⟨rfl, rfl⟩)
        rw [hx1, hy1, run_str (fun h => by cases h) (fun h => by cases h)]
        simp only [Op.stringOp, ba_eq]
        try simp only [strLt, ByteArray.toList_eq]
        rfl
    · simp at h
  · obtain ⟨σ, ν, hR, hA⟩ := hRA
    rename_i b
    obtain ⟨_, hal, hx1⟩ := evalA_rel hA hax
    simp only [List.cons.injEq, and_true] at hx1
    have hy1 : a.eval y = .map none := by simpa [PartRel] using (evalA_rel hA hay).2
    split at h
    · rename_i kt vt ht _
      have hr := ok1_run h
      subst hr
      refine upTo_val (w' := w) (v := .bool false) ?_ (lands_pure hR hA ⟨rfl, rfl⟩)
      rw [hx1, hy1]
      exact run_eq_map ht (.inl rfl)
    · rename_i kt vt ht _
      have hr := ok1_run h
      subst hr
      refine upTo_val (w' := w) (v := .bool true) ?_ (lands_pure hR hA ⟨rfl, rfl⟩)
      rw [hx1, hy1]
      exact run_eq_map ht (.inr rfl)
    · simp at h
  · exact sound_bin2 op t x y S r _ h hps M w0 a w hRA

theorem closOf_rel {E : Env} : ∀ {i : Nat} {js : List Nat} {as : List (AV D.τ)} {l : List (FuncId × List Nat)} {vs : List Value}, closOf i js as = some l → AVsRel E as vs →
    js = (List.range vs.length).map (i + ·) ∧ vs.length = l.length ∧ PartRel D E (.clos l) vs
  | i, [], [], l, vs, h, hv => by
    simp only [closOf, Option.some.injEq] at h; subst h
    cases hv
    exact ⟨rfl, rfl, (fun x h => by cases h), rfl⟩
  | i, [], _ :: _, l, vs, h, hv => by simp [closOf] at h
  | i, j :: js, [], l, vs, h, hv => by simp [closOf] at h
  | i, j :: js, x :: as, l, vs, h, hv => by
    obtain ⟨v, us, rfl, h1, h2⟩ := hv
    rcases x with (p | ps) | as'
    · cases p
      case clo f bs =>
        simp only [closOf] at h
        cases hb : Nat.beq i j <;> simp only [hb, cond_true, cond_false] at h
        · cases h
        have := Nat.eq_of_beq_eq_true hb
        subst this
        obtain ⟨l', hl, rfl⟩ := Option.map_eq_some_iff.1 h
        obtain ⟨q1, q2, q3, q4⟩ := closOf_rel hl h2
        obtain ⟨_, p1, p2⟩ := h1
        simp only [List.cons.injEq, and_true] at p2
        refine ⟨?_, by simp [q2], fun x hx => ?_, by rw [p2, q4]; rfl⟩
        · rw [q1, List.length_cons, List.range_succ_eq_map]
          simp only [List.map_cons, List.map_map, Nat.add_zero, List.cons.injEq, true_and]
          apply List.map_congr_left
          intro x _
          show i + 1 + x = i + (x + 1)
          omega
        · rcases List.mem_cons.1 hx with rfl | hx
          · exact p1
          · exact q3 x hx
      all_goals simp [closOf] at h
    · simp [closOf] at h
    · simp [closOf] at h

theorem zeroFn_spec {e : TypeId} (h : zeroFn P e = true) : zeroFits P e 1 = true := by
  unfold zeroFn at h
  unfold zeroFits
  split at h
  · rename_i hz; rw [hz]; rfl
  · cases h

theorem sound_buildC (nid : Nat) (t : TypeId) (len : Nat) (parts : Array (Nat × Operand)) : Sound P D (oBuildC P D nid t len parts.toList) (fun ρ => do pure (.value (← Instr.buildSlice t len (parts.map fun (i, x) => (i, ρ x))))) := by
  intro S r l h hps M w0 a w hRA
  unfold oBuildC at h
  split at h
  · rename_i e ht
    cases hz : zeroFn P e <;> simp only [hz, cond_true, cond_false] at h
    · exact sound_buildR nid t len parts S r _ h hps M w0 a w hRA
    split at h
    · rename_i hsz
      obtain ⟨σ, ν, hR, hA⟩ := hRA
      obtain ⟨as, l1, has, h⟩ := rdAs_run h
      have hvs := evalAs_rel hA has
      obtain ⟨l2, h⟩ := box_run h
      split at h
      · rename_i hun
        split at h
        · rename_i ll hll
          generalize hb : (Nat.beq ll.length len && Nat.ble len 16777216) = bb at h
          cases bb <;> simp only [cond_true, cond_false, run_fail] at h
          simp only [run_ret] at h
          obtain ⟨rfl, _⟩ := h
          simp only [Bool.and_eq_true] at hb
          have h1 := Nat.eq_of_beq_eq_true hb.1
          have h2 := Nat.le_of_ble_eq_true hb.2
          obtain ⟨e2, e1, e3⟩ := closOf_rel hll hvs
          generalize hvse : ((parts.toList.map (·.2)).map a.eval) = vs at hvs e1 e2 e3
          have hvl : vs.length = len := by rw [e1]; exact h1
          subst hvl
          have hcz : ∀ v ∈ vs, v.cells.size = 1 := fun v hv => by rw [one_cells (e3.oneCell v hv)]; rfl
          have hflat : flat vs = vs := by
            unfold flat
            have : ∀ us : List Value, (∀ v ∈ us, v.oneCell' = true) → us.flatMap (fun v => v.cells.toList) = us := by
              intro us
              induction us with
              | nil => intro _; rfl
              | cons u us ih =>
                intro hu
                rw [List.flatMap_cons, ih fun v hv => hu v (List.mem_cons_of_mem _ hv), one_cells (hu u (List.mem_cons_self ..))]
                rfl
            exact this vs fun v hv => e3.oneCell v hv
          have hparts : (parts.map fun (x : Nat × Operand) => (x.1, a.eval x.2)).toList = ((List.range vs.length).map (0 + ·)).zip vs := by
            rw [← e2, ← hvse, Array.toList_map]
            generalize parts.toList = L
            induction L with
            | nil => rfl
            | cons p L ih => simp [ih]
          have hrun := run_buildSliceS (P := P) (w := w) (parts := parts.map fun (x : Nat × Operand) => (x.1, a.eval x.2)) ht hsz (zeroFn_spec hz) (Nat.le_refl _) (by omega) hparts hcz
          rw [hflat] at hrun
          refine upTo_val hrun (lands_dynE (old := []) (row := none) (xs := vs) (n := vs.length) hR hA hun ?_ e3 rfl (World.grownBy_alloc _ _ _) (by simp) (fun g hg => .inl ?_))
          · refine ⟨by show vs.length = vs.length * 1; omega, .inr ⟨w.heap.size, vs.length, _, rfl, Nat.zero_le _, Go.heap_alloc_new w _, Nat.le_refl _, by unfold maxLen; omega, ?_, ?_⟩⟩
            · show vs.length * 1 ≤ vs.toArray.size
              rw [List.size_toArray]; omega
            · exact List.take_of_length_le (by rw [List.toList_toArray]; show vs.length ≤ vs.length * 1; omega)
          · simp [Value.ownBlock] at hg; omega
        · simp at h
      · simp at h
    · simp at h
  · simp at h

theorem sound_indexAddrC (t : TypeId) (x y : Operand) : Sound P D (oIndexAddrC P D t x y) (fun ρ => do pure (.value (← Instr.indexAt t (ρ x) (ρ y)))) := by
  intro S r l h hps M w0 a w hRA
  unfold oIndexAddrC at h
  split at h
  · exact sound_indexAddrR t _ y S r l h hps M w0 a w hRA
  obtain ⟨av, bv, l0, hav, hbv, h⟩ := pair_run h
  split at h
  · rename_i b kd lt i
    obtain ⟨l1, h⟩ := box_run h
    split at h
    · rename_i e' ll hbx
      split at h
      · rename_i e ht
        split at h
        · rename_i hs
          have hr := ok1_run h
          subst hr
          obtain ⟨σ, ν, hR, hA⟩ := hRA
          obtain ⟨hone, hal, h1c, hv⟩ := evalA_rel hA hav
          simp only [List.cons.injEq, and_true] at hv
          have hi := int_rel (evalA_rel hA hbv)
          have h0 : 0 ≤ i := hps _ (by simp)
          have h1 : i < ll.length := hps _ (by simp)
          have hb := hR.boxes b
          rw [hbx] at hb
          obtain ⟨n, xs, hown, hp, _⟩ := hb
          have hown' : w.ownsL 0 e' 1 (ν b) n xs := hown
          have hn : xs.length = n := by have := hown'.1; simpa using this
          have hxl : xs.length = ll.length := by rw [hp.2, List.length_map]
          rcases hown'.2 with ⟨_, hz⟩ | ⟨g, cap, cur, hνe, _, hcur, hnc, hcm, hcs, htk⟩
          · omega
          have hrun := run_indexAt_slice (P := P) (w := w) (b := g) (off := 0) (n := n) (cap := cap) (k := kd) (i := i) ht hs h0 (by omega)
          refine upTo_val (w' := w) (v := .pointer (some ⟨g, i.toNat, none⟩)) ?_ (lands_pure hR hA ⟨rfl, hal, g, by show (ν b).ownBlock = _; rw [hνe]; rfl, rfl⟩)
          have hv' : a.eval x = ν b := hv
          rw [hv', hνe, hi]
          simpa using hrun
        · simp at h
      · simp at h
    · exact sound_indexAddrR t x y S r _ h hps M w0 a w hRA
  · exact sound_indexAddrR t x y S r _ h hps M w0 a w hRA

theorem sound_loadC (t : TypeId) (x : Operand) : Sound P D (oLoadC P D t x) (fun ρ => do pure (.value (← Instr.loadAt t (ρ x)))) := by
  intro S r l h hps M w0 a w hRA
  unfold oLoadC at h
  split at h
  · exact sound_loadR t _ S r l h hps M w0 a w hRA
  obtain ⟨av, l0, hav, h⟩ := rdA_run h
  split at h
  · rename_i b i
    obtain ⟨l1, h⟩ := box_run h
    split at h
    · rename_i e' ll hbx
      cases hg : aggB P t <;> simp only [hg, cond_true, cond_false, run_fail] at h
      split at h
      · rename_i n f bs hsz hli
        have hr := ok1_run h
        subst hr
        obtain ⟨σ, ν, hR, hA⟩ := hRA
        obtain ⟨hone, hal, g, hgb, hv⟩ := evalA_rel hA hav
        simp only [List.cons.injEq, and_true] at hv
        have hb := hR.boxes b
        rw [hbx] at hb
        obtain ⟨m, xs, hown, hp, _⟩ := hb
        have hown' : w.ownsL 0 e' 1 (ν b) m xs := hown
        have hxi : xs[i]? = some (cloV σ.f f bs) := by rw [hp.2, List.getElem?_map, hli]; rfl
        have hc := hown'.cells (g := g) hgb i _ hxi
        rw [Addr.add_lit, Nat.zero_add] at hc
        refine upTo_load hv (run_loadVar_one hsz hg hc) (lands_pure hR hA ⟨rfl, hp.1 _ (List.mem_of_getElem? hli), rfl⟩)
      · simp at h
    · exact sound_loadR t x S r _ h hps M w0 a w hRA
  · exact sound_loadR t x S r _ h hps M w0 a w hRA

theorem refs0_rel {E : Env} : ∀ {as : List (AV D.τ)} {bs : List Nat} {vs : List Value}, refs0 as = some bs → AVsRel E as vs →
    (∀ b ∈ bs, E.al b) ∧ vs = bs.map fun b => Value.pointer (some ⟨E.σ b, 0, none⟩)
  | [], bs, vs, h, hv => by
    simp only [refs0, Option.some.injEq] at h; subst h
    cases hv
    exact ⟨(fun b h => by cases h), rfl⟩
  | x :: as, bs, vs, h, hv => by
    obtain ⟨v, us, rfl, h1, h2⟩ := hv
    unfold refs0 at h
    split at h
    · rename_i e; cases e
    · rename_i b as' e
      cases e
      obtain ⟨bs', hb, rfl⟩ := Option.map_eq_some_iff.1 h
      obtain ⟨q1, q2⟩ := refs0_rel hb h2
      obtain ⟨_, p1, p2⟩ := h1
      simp only [List.cons.injEq, and_true] at p2
      refine ⟨fun c hc => ?_, by rw [p2, q2]; rfl⟩
      rcases List.mem_cons.1 hc with rfl | hc
      · exact p1
      · exact q1 c hc
    · cases h

theorem sound_makeFunc (fn : Fn) (first captured : Array Operand) : Sound P D (oMakeFunc D fn first.toList captured.toList) (fun ρ => do pure (.value (← Instr.makeFunc fn (first.map ρ) (captured.map ρ)))) := by
  intro S r l h hps M w0 a w ⟨σ, ν, hR, hA⟩
  unfold oMakeFunc at h
  split at h
  · rename_i f hf
    obtain ⟨as, l1, has, h⟩ := rdAs_run h
    have hvs := evalAs_rel hA has
    split at h
    · rename_i bs hbs
      have hr := ok1_run h
      subst hr
      obtain ⟨q1, q2⟩ := refs0_rel hbs hvs
      have hfe : first = #[] := by rw [← Array.toList_inj]; exact hf
      refine upTo_val (w' := w) (v := cloV σ.f f bs) ?_ (lands_pure hR hA ⟨rfl, q1, rfl⟩)
      rw [hfe]
      have he : (#[] : Array Operand).map a.eval = #[] := by simp
      rw [he]
      have hc : captured.map a.eval = (bs.map fun b => Value.pointer (some ⟨σ.f b, 0, none⟩)).toArray := by
        rw [← Array.toList_inj, Array.toList_map, List.toList_toArray]
        exact q2
      simp only [Instr.makeFunc, hc]
      rfl
    · simp at h
  · simp at h

theorem row_over {xs us : List Value} {s lo n : Nat} {ll zz : List Rec} {E : Env} {sh : List FK} (hs : s = rsz sh) (hx : PartRel D E (.lrs sh ll) xs) (hu : PartRel D E (.lrs sh zz) us) (hz : zz.length = n) (hb : lo + n ≤ ll.length) :
    PartRel D E (.lrs sh (ll.take lo ++ (zz ++ ll.drop (lo + n)))) (xs.take (lo * s) ++ (us ++ xs.drop ((lo + n) * s))) := by
  subst hs
  have hxl : xs.length = ll.length * rsz sh := hx.1
  have h1 : PartRel D E (.lrs sh (ll.take lo)) (xs.take (lo * rsz sh)) := by
    have hle2 : lo * rsz sh ≤ ll.length * rsz sh := Nat.mul_le_mul_right _ (by omega)
    refine ⟨by rw [List.length_take, List.length_take, hxl, Nat.min_eq_left hle2, Nat.min_eq_left (by omega)], fun i r hi => ?_⟩
    rw [List.getElem?_take] at hi
    split at hi
    · rename_i hil
      have hle := le_rows (s := rsz sh) hil
      rw [List.drop_take, List.take_take, Nat.min_eq_left (by omega)]
      exact hx.2 i r hi
    · cases hi
  have h3 : PartRel D E (.lrs sh (ll.drop (lo + n))) (xs.drop ((lo + n) * rsz sh)) := by
    refine ⟨by rw [List.length_drop, List.length_drop, hxl, Nat.sub_mul], fun i r hi => ?_⟩
    rw [List.getElem?_drop] at hi
    rw [List.drop_drop, ← Nat.add_mul]
    exact hx.2 _ r hi
  exact lrs_append h1 (lrs_append hu h3)

theorem flat_zero {z : Array Value} (n : Nat) : flat (List.replicate n (Value.agg z)) = (Builtin.zeroCells z n).toList := by
  have hc : ∀ v ∈ List.replicate n (Value.agg z), v.cells.size = z.size := by
    intro v hv
    rw [(List.mem_replicate.1 hv).2]; rfl
  have hl := flat_len hc
  rw [List.length_replicate] at hl
  apply List.ext_getElem?
  intro i
  by_cases hi : i < n * z.size
  · have hz : 0 < z.size := by
      rcases Nat.eq_zero_or_pos z.size with h | h
      · rw [h, Nat.mul_zero] at hi; omega
      · exact h
    have hq : i / z.size < n := by rw [Nat.div_lt_iff_lt_mul hz]; exact hi
    have hm := Nat.mod_lt i hz
    have hdm := Nat.div_add_mod i z.size
    have hg := flat_get hc (i / z.size) (.agg z) (by rw [List.getElem?_replicate, if_pos hq])
    have h1 : (flat (List.replicate n (Value.agg z)))[i]? = z[i % z.size]? := by
      have := congrArg (fun l => l[i % z.size]?) hg
      simp only [List.getElem?_take_of_lt hm, List.getElem?_drop] at this
      rw [Nat.mul_comm, hdm] at this
      rw [this]
      simp [Value.cells]
    rw [h1]
    simp [Builtin.zeroCells, hi, hm]
  · rw [List.getElem?_eq_none (by omega), List.getElem?_eq_none (by simp [Builtin.zeroCells]; omega)]

theorem sound_clear (x : Operand) (t ty : TypeId) : Sound P D (oClear P D x t) (fun ρ => valOf (Builtin.clear_ #[t] ty #[ρ x])) := by
  intro S r l h hps M w0 a w hRA
  unfold oClear at h
  obtain ⟨av, l0, hav, h⟩ := rdA_run h
  split at h
  · rename_i b sz lo n
    obtain ⟨l1, h⟩ := box_run h
    split at h
    · rename_i e sh ll hbx
      split at h
      · rename_i e' ht
        generalize hb : (Nat.beq e e' && (Nat.beq sz (rsz sh) && zeroFits P e (rsz sh))) = bb at h
        cases bb <;> simp only [cond_true, cond_false, run_fail] at h
        simp only [Bool.and_eq_true] at hb
        have hee := Nat.eq_of_beq_eq_true hb.1
        have hsz := Nat.eq_of_beq_eq_true hb.2.1
        split at h
        · rename_i zs hzs
          split at h
          · rename_i z hz
            simp only [run_ret] at h
            obtain ⟨rfl, _⟩ := h
            subst hee
            subst hsz
            obtain ⟨σ, ν, hR, hA⟩ := hRA
            have hlo : lo + n ≤ ll.length := hps _ (by simp)
            have hpos : 1 ≤ rsz sh := hps _ (by simp)
            obtain ⟨_, hal, g, len, cap, c2, hνe, hln, hnc2, hc2m, o, ho, hv⟩ := evalA_rel hA hav
            simp only [List.cons.injEq, and_true] at hv
            have hbb := hR.boxes b
            rw [hbx] at hbb
            obtain ⟨n', xs, hown, hp, h1c⟩ := hbb
            have hown' : w.ownsL 0 e (rsz sh) (ν b) n' xs := hown
            obtain ⟨i, zv, hi, hiz, hzp⟩ := zeroParts_spec (P := P) hzs
            have hzrec : ∀ E : Env, RecRel E.σ sh 0 z zv.cells.toList := fun E => mkRec_sound [] hz (hzp E)
            have hzl := (hzrec (cenv w)).len
            have hle1 : (S.env D M w0 σ ν).le ((S.upd (.box b (.dyn e (.lrs sh (ll.take lo ++ (List.replicate n z ++ ll.drop (lo + n))))))).env D M w0 σ ν) := env_upd_box trivial
            rcases hown'.2 with ⟨hn, _⟩ | ⟨g', cap', cur, hνe', _, hcur, hnc, hcm, hcs, htk⟩
            · rw [show (S.env D M w0 σ ν).ν b = ν b from rfl, hn] at hνe; cases hνe
            have hgg : ν b = .slice (some ⟨g, 0, none⟩) len cap := hνe
            rw [hνe'] at hgg
            simp only [Value.slice.injEq, Option.some.injEq, Addr.mk.injEq, and_true] at hgg
            obtain ⟨rfl, rfl, rfl⟩ := hgg
            have hnl : n' = ll.length := by
              have := hown'.1
              rw [hp.1] at this
              exact (Nat.eq_of_mul_eq_mul_right (by omega) this).symm
            have hvs : (flat (List.replicate n (Value.agg zv.cells))) = (Builtin.zeroCells zv.cells n).toList := flat_zero n
            have hzz : PartRel D (S.env D M w0 σ ν) (.lrs sh (List.replicate n z)) (Builtin.zeroCells zv.cells n).toList := by
              rw [← hvs]
              refine (flat_lrs (by simp) fun k rr hk => ?_).2
              have hkn : k < n := by have := (List.getElem?_eq_some_iff.1 hk).1; simpa using this
              rw [List.getElem?_replicate, if_pos hkn] at hk
              simp only [Option.some.injEq] at hk
              subst hk
              exact ⟨zv.cells.toList, by rw [List.getElem?_replicate, if_pos hkn, Array.toArray_toList], hzrec _⟩
            have hzzl : (Builtin.zeroCells zv.cells n).toList.length = n * rsz sh := by rw [hzz.1, List.length_replicate]
            have hrow := row_over (lo := lo) rfl hp hzz (List.length_replicate) hlo
            by_cases hn0 : n = 0
            · subst hn0
              have hrun : (Builtin.clear_ #[t] ty #[a.eval x]).run P w = .ok (.tuple #[]) w := by
                rw [hv]
                simp [Builtin.clear_, run_underlying ht]
              refine upTo_val (w' := w) (v := .tuple #[]) hrun ?_
              unfold Lands
              simp only [bx_one]
              refine ⟨σ, ν, hR.updBox trivial (by rw [hbx]; rfl) ⟨n', xs, hown, ?_, h1c⟩ (World.grownBy.refl _ _), hA.mono hle1 rfl rfl, undef_rel⟩
              simp only [Nat.add_zero, List.replicate_zero, List.nil_append, List.take_append_drop]
              exact hp.mono hle1
            · have hoe := ho (by omega)
              subst hoe
              have hfit : lo * rsz sh + (Builtin.zeroCells zv.cells n).toList.length ≤ cur.size := by
                rw [hzzl, ← Nat.add_mul]
                refine Nat.le_trans (Nat.mul_le_mul_right _ (Nat.le_trans hlo ?_)) hcs
                omega
              have hst := run_storeCells_at P g' (lo * rsz sh) e (Builtin.zeroCells zv.cells n).toList 0 cur w hcur (by omega) (hzz.oneCell)
              simp only [Nat.add_zero] at hst
              have hrun : (Builtin.clear_ #[t] ty #[a.eval x]).run P w = .ok (.tuple #[]) (w.setRow g' (cur.toList.take (lo * rsz sh) ++ (Builtin.zeroCells zv.cells n).toList ++ cur.toList.drop (lo * rsz sh + (Builtin.zeroCells zv.cells n).toList.length)).toArray) := by
                rw [hv]
                obtain ⟨m, rfl⟩ : ∃ m, n = m + 1 := ⟨n - 1, by omega⟩
                simp only [Builtin.clear_]
                simp [run_underlying ht, zeroValue, typeInfo, hi, hiz, hst]
              refine upTo_val hrun ?_
              unfold Lands
              simp only [bx_one]
              have hcl : cur.toList = xs ++ cur.toList.drop (n' * rsz sh) := by rw [← htk, List.take_append_drop]
              have hxl : xs.length = n' * rsz sh := hown'.1
              have hloN : (lo + n) * rsz sh ≤ n' * rsz sh := Nat.mul_le_mul_right _ (by omega)
              have hlo1 : lo * rsz sh ≤ (lo + n) * rsz sh := Nat.mul_le_mul_right _ (by omega)
              have hnew : cur.toList.take (lo * rsz sh) ++ (Builtin.zeroCells zv.cells n).toList ++ cur.toList.drop (lo * rsz sh + (Builtin.zeroCells zv.cells n).toList.length) =
                  (xs.take (lo * rsz sh) ++ ((Builtin.zeroCells zv.cells n).toList ++ xs.drop ((lo + n) * rsz sh))) ++ cur.toList.drop (n' * rsz sh) := by
                rw [hzzl, ← Nat.add_mul]
                generalize hZ : cur.toList.drop (n' * rsz sh) = Z at hcl
                rw [hcl, List.take_append_of_le_length (by omega), List.drop_append_of_le_length (by omega)]
                simp only [List.append_assoc]
              have hrl : (xs.take (lo * rsz sh) ++ ((Builtin.zeroCells zv.cells n).toList ++ xs.drop ((lo + n) * rsz sh))).length = n' * rsz sh := by
                have := hrow.1
                rw [this]
                congr 1
                simp only [List.length_append, List.length_take, List.length_drop, List.length_replicate]
                omega
              refine ⟨σ, ν, hR.updBox trivial (by rw [hbx]; rfl) ⟨n', xs.take (lo * rsz sh) ++ ((Builtin.zeroCells zv.cells n).toList ++ xs.drop ((lo + n) * rsz sh)), ?_, hrow.mono hle1, h1c⟩ ?_, hA.mono hle1 rfl rfl, undef_rel⟩
              · show World.ownsL _ 0 e (rsz sh) (ν b) n' _
                rw [hνe']
                refine ⟨hrl, .inr ⟨g', cap', _, rfl, Nat.zero_le _, setRow_heap w g' cur _ e _ hcur, hnc, hcm, ?_, ?_⟩⟩
                · rw [hnew, List.size_toArray, List.length_append, hrl, List.length_drop, Array.length_toList]
                  have : n' * rsz sh ≤ cap' * rsz sh := Nat.mul_le_mul_right _ hnc
                  omega
                · rw [hnew, List.toList_toArray, ← hrl, List.take_left]
              · rw [hbx]
                show w.grownBy _ (ν b).ownBlock
                rw [hνe']
                exact grownBy_setRow w _ _
          · simp at h
        · simp at h
      · simp at h
    · simp at h
  · simp at h

end
end Go.Abs

/- An evaluator over descriptions of values: the newer operations, and all operations. -/
import Derived.Test.YtakigppkbolmnaaAbsQ
namespace Go.Abs
open Go.RowKit
section
variable {P : Program} {D : Dom}

theorem run_arrayAt {t e : TypeId} {n len cap : Nat} {ao : Option Addr} {w : World} (ht : P.underlying t = some (.array n e)) (h : n ≤ len) :
    (Instr.arrayAt t (.slice ao len cap)).run P w = .ok (.pointer ao) w := by
  unfold Instr.arrayAt
  have : ¬ len < n := by omega
  simp [run_underlying ht, this]

theorem sl_ptr {M : Nat → Prop} {W : World} {k : IntKind} {l : List Int} {ao : Option Addr} {len cap n : Nat} (h : SlRel M W k l (.slice ao len cap)) (h1 : 1 ≤ n) (hn : n ≤ l.length) :
    ∃ b off, ao = some ⟨b, off, none⟩ ∧ n ≤ len ∧ ∀ i, i < (l.take n).length → ¬ M b ∧ W.cell? ((⟨b, off, none⟩ : Addr).add i) = some (.int k ((l.take n).getD i 0)) := by
  obtain ⟨ao', cap', e, _, _, _, hc⟩ := h
  simp only [Value.slice.injEq] at e
  obtain ⟨rfl, rfl, rfl⟩ := e
  obtain ⟨b, off, rfl, _, _⟩ := hc 0 (by omega)
  refine ⟨b, off, rfl, hn, fun i hi => ?_⟩
  rw [List.length_take] at hi
  obtain ⟨b', off', e2, q1, q2⟩ := hc i (by omega)
  simp only [Option.some.injEq] at e2
  cases e2
  refine ⟨q1, ?_⟩
  rw [Addr.add_lit, q2]
  simp only [List.getD_eq_getElem?_getD, List.getElem?_take, if_pos (show i < n by omega)]

theorem sound_arrPtr (t : TypeId) (x : Operand) : Sound P D (oArrPtr P D t x) (fun ρ => do pure (.value (← Instr.arrayAt t (ρ x)))) := by
  intro S r l h hps M w0 a w ⟨σ, ν, hR, hA⟩
  unfold oArrPtr at h
  split at h
  · rename_i n e ht
    split at h
    · obtain ⟨av, l0, hav, h⟩ := rdA_run h
      have hx := evalA_rel hA hav
      split at h
      · rename_i k il
        obtain ⟨hone, u, hu, M1, W1, hB, hsl⟩ := hx
        simp only [List.cons.injEq, and_true] at hu
        rw [← hu] at hsl
        cases hn : Nat.ble 1 n <;> simp only [hn, cond_true, cond_false, run_fail] at h
        have hr := ok1_run h
        subst hr
        have hnl : n ≤ il.length := hps _ (by simp)
        obtain ⟨ao, cap, e1, _⟩ := id hsl
        rw [e1] at hsl
        obtain ⟨b, off, rfl, h2, h3⟩ := sl_ptr hsl (Nat.le_of_ble_eq_true hn) hnl
        refine upTo_val (w' := w) (v := .pointer (some ⟨b, off, none⟩)) ?_ (lands_pure hR hA ⟨rfl, by rw [List.length_take]; omega, _, rfl, M1, W1, hB, rfl, h3⟩)
        rw [e1]
        exact run_arrayAt ht h2
      · rename_i k il
        obtain ⟨hone, u, hu, hsl⟩ := hx
        simp only [List.cons.injEq, and_true] at hu
        rw [← hu] at hsl
        cases hn : Nat.ble 1 n <;> simp only [hn, cond_true, cond_false, run_fail] at h
        have hr := ok1_run h
        subst hr
        have hnl : n ≤ il.length := hps _ (by simp)
        obtain ⟨ao, cap, e1, _⟩ := id hsl
        rw [e1] at hsl
        obtain ⟨b, off, rfl, h2, h3⟩ := sl_ptr hsl (Nat.le_of_ble_eq_true hn) hnl
        refine upTo_val (w' := w) (v := .pointer (some ⟨b, off, none⟩)) ?_ (lands_pure hR hA ⟨rfl, by rw [List.length_take]; omega, _, rfl, _, _, .inr ⟨rfl, rfl⟩, rfl, h3⟩)
        rw [e1]
        exact run_arrayAt ht h2
      · rename_i b base N lo m cap
        obtain ⟨hone, hal, hlo, hnc, hcm, hv⟩ := hx
        simp only [List.cons.injEq, and_true] at hv
        cases hn : Nat.ble 1 n <;> simp only [hn, cond_true, cond_false, run_fail] at h
        have hr := ok1_run h
        subst hr
        have hnl : n ≤ m := hps _ (by simp)
        refine upTo_val (w' := w) (v := .pointer (some ⟨σ b, base + lo, none⟩)) ?_ (lands_pure hR hA ⟨rfl, hal, rfl⟩)
        rw [hv]
        exact run_arrayAt ht hnl
      · simp at h
    · simp at h
  · simp at h

theorem over_cells {k : IntKind} {a l : List Int} {lo : Nat} : (over a lo l).map (Value.int k) = (a.map (Value.int k)).take lo ++ l.map (Value.int k) ++ (a.map (Value.int k)).drop (lo + l.length) := by
  unfold over
  simp [List.map_append, List.map_take, List.map_drop]

theorem over_length {a l : List Int} {lo : Nat} (h : lo + l.length ≤ a.length) : (over a lo l).length = a.length := by
  unfold over
  simp only [List.length_append, List.length_take, List.length_drop]
  omega

theorem sound_copy2 (x y : Operand) (t u ty : TypeId) : Sound P D (oCopy2 P D x y t) (fun ρ => valOf (Builtin.copy_ #[t, u] ty #[ρ x, ρ y])) := by
  intro S r l h hps M w0 a w hRA
  unfold oCopy2 at h
  obtain ⟨av, l0, hav, h⟩ := rdA_run h
  split at h
  · rename_i b base N lo n cap
    obtain ⟨σ, ν, hR, hA⟩ := hRA
    obtain ⟨hone, hal, hlo, hnc, hcm, hv⟩ := evalA_rel hA hav
    simp only [List.cons.injEq, and_true] at hv
    have hv' : a.eval x = .slice (some ⟨σ b, base + lo, none⟩) n cap := hv
    split at h
    · rename_i e ht
      split at h
      · rename_i hs
        obtain ⟨ay, l1, hay, h⟩ := rdA_run h
        have hy := evalA_rel hA hay
        split at h
        · rename_i q
          obtain ⟨q', l2, h, hq'⟩ := lend_sound hR foot_nil h hy.2
          split at h
          · rename_i k il
            obtain ⟨v, e1, hsl⟩ := words_c (hq' (cenv w) rfl rfl (fun g hg => hR.zk g hg) (fun h => by cases h))
            simp only [List.cons.injEq, and_true] at e1
            have hsl' : SlRel (fun _ => False) w k il (a.eval y) := by rw [e1]; exact hsl
            obtain ⟨l3, h⟩ := box_run h
            have hb := hR.boxes b
            split at h
            · rename_i ty' ps hbx
              split at h
              · rename_i p1 p2 p3 hsp
                split at h
                · rename_i ai hai
                  simp only [run_ret] at h
                  obtain ⟨rfl, _⟩ := h
                  rw [hbx] at hb
                  obtain ⟨cs, hg, hp⟩ := hb
                  have hg' : w.heap[σ b]? = some (.cells cs ty' (0, 0)) := hg
                  obtain ⟨c1, c2, c3, he, hl1, hl2, hr1, hr2, hr3⟩ := splitP_sound hsp hp
                  have hc2 := allInts_rel hai hr2
                  subst hc2
                  rw [List.length_map] at hl2
                  have hcs : cs.size = base + (N + c3.length) := by rw [← Array.length_toList, he, List.length_append, List.length_append, List.length_map, hl1, hl2]
                  have hsz : (P.info? e).map (·.size) = some 1 := by
                    obtain ⟨i', d, hi, hn, hd⟩ := szOf_spec hs
                    rw [hi]; simpa using hn
                  have htl : (il.take n).length = min n il.length := by rw [List.length_take]
                  have hle : (S.env D M w0 σ ν).le ((S.upd (.box b (.fixed ty' (p1 ++ (.arr k N (over ai lo (il.take n)) :: p3))))).env D M w0 σ ν) := env_upd_box (by trivial)
                  have hq : PartsRel D (S.env D M w0 σ ν) (p1 ++ (.arr k N (over ai lo (il.take n)) :: p3)) (c1 ++ ((over ai lo (il.take n)).map (Value.int k) ++ c3)) :=
                    hr1.append ⟨_, _, rfl, ⟨by rw [over_length (by rw [htl]; omega)]; exact hl2, rfl⟩, hr3⟩
                  have hset : cs.toList.take (base + lo) ++ (il.take n).map (Value.int k) ++ cs.toList.drop (base + lo + (il.take n).length) = c1 ++ ((over ai lo (il.take n)).map (Value.int k) ++ c3) := by
                    rw [he, ← hl1, over_cells]
                    rw [List.take_length_add_append, List.take_append_of_le_length (by rw [List.length_map]; omega), Nat.add_assoc, List.drop_length_add_append, List.drop_append_of_le_length (by rw [List.length_map, htl]; omega)]
                    simp only [List.append_assoc]
                  obtain ⟨ao, cap', hve, g1, g2, g3, g4⟩ := hsl'
                  cases ao with
                  | some ad =>
                    have hcell : ∀ j u, ((il.take n).map (Value.int k))[j]? = some u → w.cell? (ad.add j) = some u := by
                      intro j u hu
                      obtain ⟨hj, rfl⟩ := getElem?_map_int hu
                      rw [htl] at hj
                      obtain ⟨b', off', e2, _, h2⟩ := g4 j (by omega)
                      simp only [Option.some.injEq] at e2
                      subst e2
                      rw [Addr.add_lit, h2]
                      simp only [List.getD_eq_getElem?_getD, List.getElem?_take, if_pos (show j < n by omega)]
                    have hrun := run_copy_row P w t u ty e (σ b) (base + lo) n cap ad il.length cap' cs ty' ((il.take n).map (Value.int k)) ht hsz hg' (by rw [List.length_map, htl]; exact Nat.min_comm _ _) hcell (by rw [List.length_map, htl]; omega) (by intro v hv; obtain ⟨_, _, rfl⟩ := List.mem_map.1 hv; rfl)
                    rw [List.length_map, hset] at hrun
                    refine upTo_val (v := .int .i64 (il.take n).length) (w' := w.setRow (σ b) (c1 ++ ((over ai lo (il.take n)).map (Value.int k) ++ c3)).toArray) ?_ ?_
                    · rw [hv', hve]; exact hrun
                    · unfold Lands
                      simp only [bx_one]
                      refine ⟨σ, ν, hR.updBox (by trivial) (by rw [hbx]; rfl) ⟨_, setRow_heap w _ cs _ ty' _ hg', by simpa using hq.mono hle⟩ (by rw [hbx]; exact grownBy_setRow w _ _), hA.mono hle rfl rfl, by rw [htl]; exact rel_int⟩
                  | none =>
                    have hc0 := g3 rfl
                    have hil : il = [] := List.eq_nil_of_length_eq_zero (by omega)
                    subst hil
                    have hn0 : (List.take n ([] : List Int)) = [] := by simp
                    rw [hn0] at hq hset hle
                    simp only [List.map_nil, List.append_nil, List.length_nil, Nat.add_zero, List.take_append_drop] at hset
                    refine upTo_val (v := .int .i64 0) (w' := w) ?_ ?_
                    · rw [hv', hve]
                      have hmin : ∀ m : Nat, Nat.min 0 m = 0 := fun m => Nat.zero_min m
                      cases hq2 : P.info? e with
                      | none => rw [hq2] at hsz; simp at hsz
                      | some i => simp [Builtin.copy_, run_underlying ht, Builtin.lenOf, Builtin.firstCells, sizeOf, typeInfo, hq2, hmin, storeCells, goInt]
                    · unfold Lands
                      simp only [bx_one, hn0]
                      refine ⟨σ, ν, hR.updBox (by trivial) (by rw [hbx]; rfl) ⟨cs, hg', ?_⟩ (World.grownBy.refl _ _), hA.mono hle rfl rfl, by simpa using (rel_int (D := D) (E := _) (k := .i64) (lt := false) (n := 0))⟩
                      rw [hset]
                      exact hq.mono hle
                · simp at h
              · simp at h
            · simp at h
          · simp at h
        · simp at h
      · simp at h
    · simp at h
  · exact sound_copy x y t u ty S r _ h hps M w0 a w hRA

theorem sound_len2 (x : Operand) (t ty : TypeId) : Sound P D (oLen2 P D x t) (fun ρ => valOf (Builtin.len_ #[t] ty #[ρ x])) := by
  intro S r l h hps M w0 a w hRA
  unfold oLen2 at h
  obtain ⟨av, l0, hav, h⟩ := rdA_run h
  split at h
  · obtain ⟨σ, ν, hR, hA⟩ := hRA
    obtain ⟨hone, u, hu, ao, cap, e1, _⟩ := evalA_rel hA hav
    simp only [List.cons.injEq, and_true] at hu
    split at h
    · rename_i e ht
      have hr := ok1_run h
      subst hr
      refine upTo_val (w' := w) ?_ (lands_pure hR hA rel_int)
      rw [hu, e1]
      exact run_len_slice ht
    · simp at h
  · obtain ⟨σ, ν, hR, hA⟩ := hRA
    obtain ⟨hone, hal, _, _, _, hv⟩ := evalA_rel hA hav
    simp only [List.cons.injEq, and_true] at hv
    split at h
    · rename_i e ht
      have hr := ok1_run h
      subst hr
      refine upTo_val (w' := w) ?_ (lands_pure hR hA rel_int)
      rw [hv]
      exact run_len_slice ht
    · simp at h
  · rename_i b
    obtain ⟨l1, h⟩ := box_run h
    split at h
    · rename_i e' k ll hbx
      obtain ⟨σ, ν, hR, hA⟩ := hRA
      obtain ⟨hone, hal, h1c, hv⟩ := evalA_rel hA hav
      simp only [List.cons.injEq, and_true] at hv
      have hv' : a.eval x = ν b := hv
      split at h
      · rename_i e ht
        have hr := ok1_run h
        subst hr
        have hb := hR.boxes b
        rw [hbx] at hb
        obtain ⟨n', xs, hown, hp, _⟩ := hb
        have hown' : w.ownsL 0 e' 1 (ν b) n' xs := hown
        have hn' : xs.length = n' := by have := hown'.1; simpa using this
        refine upTo_val (w' := w) ?_ (lands_pure hR hA rel_int)
        rw [← hp.1, hn', hv']
        rcases hown'.2 with ⟨hνe, h0⟩ | ⟨g, cap, cur, hνe, _⟩
        · rw [hνe, h0]; exact run_len_slice ht
        · rw [hνe]; exact run_len_slice ht
      · simp at h
    · exact sound_len x t ty S r _ h hps M w0 a w hRA
  · exact sound_len x t ty S r _ h hps M w0 a w hRA

theorem zeroSl_spec {e : TypeId} (h : zeroSl P e = true) : ∃ i, P.info? e = some i ∧ i.zero = some (.slice none 0 0) := by
  unfold zeroSl at h
  split at h
  · rename_i hz
    exact Option.bind_eq_some_iff.1 hz
  · cases h

/-- Values of one cell each that are slices which can be read. -/
def WsRel (E : Env) (k : IntKind) (ll : List (List Int)) (vs : List Value) : Prop :=
  vs.length = ll.length ∧ ∀ (i : Nat) u, vs[i]? = some u → ∃ M W, Base E M W ∧ SlRel M W k (ll.getD i []) u

theorem WsRel.one {E : Env} {k : IntKind} {ll : List (List Int)} {vs : List Value} (h : WsRel E k ll vs) : ∀ v ∈ vs, v.oneCell' = true := by
  intro v hv
  obtain ⟨i, hi⟩ := List.mem_iff_getElem?.1 hv
  obtain ⟨_, _, _, ao, cap, e, _⟩ := h.2 i v hi
  rw [e]; rfl

theorem WsRel.cons {E : Env} {k : IntKind} {l : List Int} {ll : List (List Int)} {v : Value} {vs : List Value} (h : ∃ M W, Base E M W ∧ SlRel M W k l v) (hs : WsRel E k ll vs) : WsRel E k (l :: ll) (v :: vs) := by
  refine ⟨by simp [hs.1], fun i u hu => ?_⟩
  cases i with
  | zero => simp only [List.getElem?_cons_zero, Option.some.injEq] at hu; subst hu; exact h
  | succ i => exact hs.2 i u (by simpa using hu)

theorem WsRel.append {E : Env} {k : IntKind} {l1 l2 : List (List Int)} {v1 v2 : List Value} (h1 : WsRel E k l1 v1) (h2 : WsRel E k l2 v2) : WsRel E k (l1 ++ l2) (v1 ++ v2) := by
  refine ⟨by simp [h1.1, h2.1], fun i u hu => ?_⟩
  by_cases hi : i < v1.length
  · rw [List.getElem?_append_left hi] at hu
    have := h1.2 i u hu
    rwa [List.getD_eq_getElem?_getD, List.getElem?_append_left (by rw [← h1.1]; exact hi), ← List.getD_eq_getElem?_getD]
  · rw [List.getElem?_append_right (by omega)] at hu
    have := h2.2 _ u hu
    rwa [List.getD_eq_getElem?_getD, List.getElem?_append_right (by rw [← h1.1]; omega), ← h1.1, ← List.getD_eq_getElem?_getD]

theorem wordsOf_rel {E : Env} {k : IntKind} : ∀ {i : Nat} {js : List Nat} {as : List (AV D.τ)} {ll : List (List Int)} {vs : List Value}, wordsOf D k i js as = some ll → AVsRel E as vs →
    WsRel E k ll vs ∧ js = (List.range ll.length).map (i + ·)
  | i, [], [], ll, vs, h, hv => by
    simp [wordsOf] at h
    subst h
    cases hv
    exact ⟨⟨rfl, fun i u h => by simp at h⟩, by simp⟩
  | i, j :: js, a :: as, ll, vs, h, hv => by
    obtain ⟨v, us, rfl, hv1, hv2⟩ := hv
    have fin : ∀ {l : List Int} {ll' : List (List Int)}, Nat.beq i j = true → (∃ M W, Base E M W ∧ SlRel M W k l v) → wordsOf D k (i + 1) js as = some ll' → WsRel E k (l :: ll') (v :: us) ∧ j :: js = (List.range (l :: ll').length).map (i + ·) := by
      intro l ll' hb hl hll
      obtain ⟨e1, e2⟩ := wordsOf_rel hll hv2
      refine ⟨e1.cons hl, ?_⟩
      have hij := Nat.eq_of_beq_eq_true hb
      subst hij
      rw [e2, List.length_cons, List.range_succ_eq_map]
      simp only [List.map_cons, List.map_map, Nat.add_zero, List.cons.injEq, true_and]
      apply List.map_congr_left
      intro x _
      show i + 1 + x = i + (x + 1)
      omega
    unfold wordsOf at h
    split at h
    · rename_i he _; cases he
    · rename_i i' j' js' p as' he1 he2
      simp only [List.cons.injEq] at he1 he2
      obtain ⟨rfl, rfl⟩ := he1
      obtain ⟨rfl, rfl⟩ := he2
      generalize hb : Nat.beq _ _ = bb at h
      cases bb <;> simp only [cond_true, cond_false] at h
      · cases h
      · split at h
        · split at h
          · rename_i hk
            subst hk
            obtain ⟨l', hl', rfl⟩ := Option.map_eq_some_iff.1 h
            obtain ⟨_, u, hu, hM⟩ := hv1
            simp only [List.cons.injEq, and_true] at hu
            exact fin hb (by rw [hu]; exact hM) hl'
          · cases h
        · split at h
          · rename_i hk
            subst hk
            obtain ⟨l', hl', rfl⟩ := Option.map_eq_some_iff.1 h
            obtain ⟨_, u, hu, hs⟩ := hv1
            simp only [List.cons.injEq, and_true] at hu
            exact fin hb ⟨_, _, .inr ⟨rfl, rfl⟩, by rw [hu]; exact hs⟩ hl'
          · cases h
        · obtain ⟨l', hl', rfl⟩ := Option.map_eq_some_iff.1 h
          obtain ⟨_, hu⟩ := hv1
          simp only [PartRel, List.cons.injEq, and_true] at hu
          exact fin hb ⟨_, _, .inl ⟨rfl, rfl⟩, by rw [hu]; exact ⟨none, 0, rfl, by simp, Nat.zero_le _, fun _ => rfl, fun i hi => by simp at hi⟩⟩ hl'
        · cases h
    · cases h
  | _, [], _ :: _, _, _, h, _ => by simp [wordsOf] at h
  | _, _ :: _, [], _, _, h, _ => by simp [wordsOf] at h

theorem one_cells {v : Value} (h : v.oneCell' = true) : v.cells = #[v] := by cases v <;> simp_all [Value.cells, Value.oneCell']

theorem fill_seqV : ∀ (l : List Value) (m : Nat) (cs : Array Value), cs.size = m + l.length → (∀ v ∈ l, v.oneCell' = true) →
    Instr.fill (fun i => some (i * 1, 1)) cs (((List.range l.length).map (m + ·)).zip l) = some (cs.toList.take m ++ l).toArray
  | [], m, cs, h, _ => by simp [Instr.fill]; rw [List.take_of_length_le (by simp at h ⊢; omega)]
  | v :: l, m, cs, h, h1 => by
    simp only [List.length_cons] at h
    have ih := fill_seqV l (m + 1) (cs.setIfInBounds m v) (by simp; omega) (fun u hu => h1 u (List.mem_cons_of_mem _ hu))
    rw [List.length_cons, List.range_succ_eq_map]
    simp only [List.map_cons, List.map_map, Nat.add_zero, List.zip_cons_cons, Instr.fill, Nat.mul_one]
    have hc : v.cells = #[v] := one_cells (h1 v (by simp))
    rw [hc]
    have hle : ¬ ((#[v] : Array Value).size ≠ 1 ∨ m + (#[v] : Array Value).size > cs.size) := by simp; omega
    rw [if_neg (by simpa using hle)]
    have e : ((#[v] : Array Value).zipIdx.foldl (fun cs (x : Value × Nat) => cs.setIfInBounds (m + x.2) x.1) cs) = cs.setIfInBounds m v := by
      rw [← Array.foldl_toList, Array.toList_zipIdx]; rfl
    have e2 : (List.map ((fun x => m + x) ∘ Nat.succ) (List.range l.length)) = (List.range l.length).map (m + 1 + ·) := by
      apply List.map_congr_left
      intro x _
      show m + (x + 1) = m + 1 + x
      omega
    rw [e2]
    simp only [Nat.mul_one] at ih ⊢
    rw [e, ih]
    congr 1
    apply congrArg List.toArray
    rw [Array.toList_setIfInBounds, List.take_set, List.set_eq_take_append_cons_drop, if_pos (by simp; omega)]
    simp [List.take_take]

theorem run_buildSliceV {t e : TypeId} {parts : Array (Nat × Value)} {l : List Value} {w : World} (ht : P.underlying t = some (.slice e)) (hs : szOf P e = some 1) (hz : zeroSl P e = true) (hl : l.length ≤ 16777216)
    (hf : ∀ Z : Array Value, Z.size = l.length → Instr.fill (fun i => some (i * 1, 1)) Z parts.toList = some l.toArray) :
    (Instr.buildSlice t l.length parts).run P w = .ok (.slice (some ⟨w.heap.size, 0, none⟩) l.length l.length) (w.alloc (.cells l.toArray e)) := by
  obtain ⟨i, hi, hiz⟩ := zeroSl_spec hz
  have hle : ¬ (16777216 < l.length) := by omega
  unfold Instr.buildSlice
  by_cases h0 : l.length = 0
  · simp only [Sem.run_bind, run_underlying ht, Result.andThen_ok, run_sizeOfB hs, Nat.mul_one, h0]
    simp only [Nat.mul_one] at hf
    simp
    rw [hf _ (by simp [h0])]
    simp [newRow]
  · simp only [Sem.run_bind, run_underlying ht, Result.andThen_ok, run_sizeOfB hs, Nat.mul_one]
    simp only [Nat.mul_one] at hf
    simp [hle, h0, zeroValue, typeInfo, hi, hiz, Value.cells]
    rw [hf _ (by simp)]
    simp [newRow]

theorem sound_buildSlice2 (nid : Nat) (t : TypeId) (len : Nat) (parts : Array (Nat × Operand)) : Sound P D (oBuildSlice2 P D nid t len parts.toList) (fun ρ => do pure (.value (← Instr.buildSlice t len (parts.map fun (i, x) => (i, ρ x))))) := by
  intro S r l h hps M w0 a w hRA
  unfold oBuildSlice2 at h
  split at h
  · rename_i e ht
    split at h
    · rename_i k hk
      split at h
      · rename_i hs
        obtain ⟨σ, ν, hR, hA⟩ := hRA
        obtain ⟨as, l1, has, h⟩ := rdAs_run h
        have hvs := evalAs_rel hA has
        obtain ⟨l2, h⟩ := box_run h
        split at h
        · rename_i hun
          split at h
          · rename_i ll hll
            generalize hb : (Nat.beq ll.length len && (Nat.ble len 16777216 && zeroSl P e)) = bb at h
            cases bb <;> simp only [cond_true, cond_false, run_fail] at h
            simp only [run_ret] at h
            obtain ⟨rfl, _⟩ := h
            simp only [Bool.and_eq_true] at hb
            have h1 := Nat.eq_of_beq_eq_true hb.1
            have h2 := Nat.le_of_ble_eq_true hb.2.1
            obtain ⟨e1, e2⟩ := wordsOf_rel hll hvs
            generalize hvse : ((parts.toList.map (·.2)).map a.eval) = vs at hvs e1
            have hvl : vs.length = len := by rw [e1.1]; exact h1
            subst hvl
            have hparts : (parts.map fun (x : Nat × Operand) => (x.1, a.eval x.2)).toList = ((List.range vs.length).map (0 + ·)).zip vs := by
              rw [← h1, ← e2, ← hvse, Array.toList_map]
              generalize parts.toList = L
              induction L with
              | nil => rfl
              | cons p L ih => simp [ih]
            have hrun := run_buildSliceV (P := P) (w := w) (parts := parts.map fun (x : Nat × Operand) => (x.1, a.eval x.2)) ht hs hb.2.2 h2 (by
              intro Z hZ
              rw [hparts, fill_seqV vs 0 Z (by omega) e1.one]
              simp)
            refine upTo_val hrun (lands_dyn (old := []) (row := none) (xs := vs) (n := vs.length) hR hA hun ?_ ⟨e1.1, e1.2⟩ rfl (World.grownBy_alloc _ _ _) (by simp) (fun g hg => .inl ?_))
            · refine ⟨by simp, .inr ⟨w.heap.size, vs.length, _, rfl, Nat.zero_le _, Go.heap_alloc_new w _, Nat.le_refl _, by unfold maxLen; omega, by simp, ?_⟩⟩
              rw [Nat.mul_one]
              exact List.take_of_length_le (by simp)
            · simp [Value.ownBlock] at hg; omega
          · simp at h
        · simp at h
      · simp at h
    · exact sound_buildSlice nid t len parts S r _ h hps M w0 a w hRA
  · simp at h

theorem append_runV {t e ty : TypeId} {w : World} {v : Value} {n : Nat} {xs us : List Value} {ao : Option Addr} {cap' : Nat} (ht : P.underlying t = some (.slice e)) (hs : szOf P e = some 1) (hz : zeroSl P e = true)
    (hown : w.ownsL 0 e 1 v n xs) (hone : ∀ u ∈ us, u.oneCell' = true) (hnil : ao = none → us = [] ∧ cap' = 0) (hnews : ∀ ad, ao = some ad → ∀ j u, us[j]? = some u → w.cell? (ad.add j) = some u) (h63 : n + us.length ≤ 9223372036854775807) (hb : (n + us.length) * bytesOfT P e ≤ 140737488355328) :
    ∃ v' w', (Builtin.append_ #[t, t] ty #[v, .slice ao us.length cap']).run P w = .ok v' w' ∧ w'.ownsL 0 e 1 v' (n + us.length) (xs ++ us) ∧ w.grownBy w' v.ownBlock ∧
      ∀ g, v'.ownBlock = some g → w.heap.size ≤ g ∨ v.ownBlock = some g := by
  obtain ⟨i, hi, hiz⟩ := zeroSl_spec hz
  obtain ⟨i', d, hi', hsz, hd⟩ := szOf_spec hs
  rw [hi] at hi'
  simp only [Option.some.injEq] at hi'
  subst hi'
  have hby : bytesOfT P e = i.bytes := by simp [bytesOfT, hi]
  rw [hby] at hb
  have hm : n + us.length ≤ maxLen := by unfold maxLen; omega
  cases ao with
  | none =>
    obtain ⟨hl, hc⟩ := hnil rfl
    subst hl
    subst hc
    have hr := run_append_ownedL_none (P := P) w 0 t ty e i 1 ht hi v n xs hown
    exact ⟨v, w, hr, by simpa using hown, World.grownBy.refl _ _, fun g hg => .inr hg⟩
  | some a =>
    have hln : us.length = us.length * 1 := by simp
    have hnews := hnews a rfl
    rcases hown.2 with ⟨rfl, hn0⟩ | ⟨g, cap, cur, rfl, _, hcur, hnc, hcm, hcs, htk⟩
    · have hx : xs = [] := List.eq_nil_of_length_eq_zero (by rw [hown.1, hn0])
      subst hn0
      subst hx
      obtain ⟨v', w', hr, ho, hg, _⟩ := run_append_ownL (P := P) w w.heap.size t ty e i _ 1 i.bytes ht hi hiz hsz rfl rfl (by omega) _ 0 [] (World.ownsL_nil w w.heap.size e 1) a us.length cap' _ hln hnews hone hm hb (Nat.le_refl _)
      exact ⟨v', w', hr, ownsL_base ho (Nat.zero_le _), hg, fun g hgo => .inl (ho.lt g hgo).1⟩
    · obtain ⟨v', w', hr, ho, hg, _⟩ := run_append_ownL (P := P) w 0 t ty e i _ 1 i.bytes ht hi hiz hsz rfl rfl (by omega) _ n xs hown a us.length cap' _ hln hnews hone hm hb (Nat.zero_le _)
      refine ⟨v', w', hr, ho, hg, fun g' hgo => ?_⟩
      by_cases hroom : n + us.length ≤ cap
      · obtain ⟨w2, hr2, _⟩ := run_append_fitsL (P := P) w 0 t ty e i 1 ht hi hsz g n cap xs hown a us.length cap' _ hln hnews hone hroom
        rw [hr] at hr2
        simp only [Result.ok.injEq] at hr2
        rw [hr2.1] at hgo
        exact .inr (by simpa [Value.ownBlock] using hgo)
      · have holds : ∀ j u, xs[j]? = some u → w.cell? ((⟨g, 0, none⟩ : Addr).add j) = some u := hown.cells (g := g) rfl
        have hr2 := run_append_grow (P := P) w t ty e i _ ht hi hiz ⟨g, 0, none⟩ n cap xs (by rw [hsz]; exact hown.1) holds a us.length cap' _ (by rw [hsz]; exact hln) hnews (by omega) (by omega) (growslice_fits (by omega) hb)
        rw [hr] at hr2
        simp only [Result.ok.injEq] at hr2
        rw [hr2.1] at hgo
        simp [Value.ownBlock] at hgo
        exact .inl (by omega)

end
end Go.Abs

/- An evaluator over descriptions of values: rows of one record of which the slices are one's own. -/
import Derived.Test.YtakigppkbolmnaaAbsW
namespace Go.Abs
open Go.RowKit
section
variable {P : Program} {D : Dom}

theorem c1Of_rel {E : Env} {p : Part D.τ} {c : C1} {vs : List Value} (h : c1Of p = some c) (hp : PartRel D E p vs) : ∃ v, vs = [v] ∧ C1Rel E c v := by
  unfold c1Of at h
  split at h
  · cases h; exact ⟨_, hp, rfl⟩
  · cases h; exact ⟨_, hp, rfl⟩
  · cases h
    obtain ⟨h1, h2, h3⟩ := hp
    exact ⟨_, h3, h1, h2, rfl⟩
  · cases h

theorem c1sOf_rel {E : Env} : ∀ {ps : List (Part D.τ)} {cs : List C1} {vs : List Value}, c1sOf ps = some cs → PartsRel D E ps vs → C1sRel E cs vs
  | [], cs, vs, h, hp => by
    cases h
    exact hp
  | p :: ps, cs, vs, h, hp => by
    unfold c1sOf at h
    split at h
    · rename_i c hc
      split at h
      · rename_i cs' hcs
        cases h
        obtain ⟨c1, c2, rfl, h1, h2⟩ := hp
        obtain ⟨v, rfl, hv⟩ := c1Of_rel hc h1
        exact ⟨v, c2, rfl, hv, c1sOf_rel hcs h2⟩
      · cases h
    · cases h

theorem c1P_rel {E : Env} : ∀ {cs : List C1} {vs : List Value}, C1sRel E cs vs → PartsRel D E (cs.map c1P) vs
  | [], vs, h => h
  | .s x :: cs, vs, h => by
    obtain ⟨v, us, rfl, h1, h2⟩ := h
    exact ⟨[v], us, rfl, by rw [show v = _ from h1]; rfl, c1P_rel h2⟩
  | .i k n :: cs, vs, h => by
    obtain ⟨v, us, rfl, h1, h2⟩ := h
    exact ⟨[v], us, rfl, by rw [show v = _ from h1]; rfl, c1P_rel h2⟩
  | .o b :: cs, vs, h => by
    obtain ⟨v, us, rfl, ⟨h1, h1b, h1c⟩, h2⟩ := h
    exact ⟨[v], us, rfl, ⟨h1, h1b, by rw [h1c]⟩, c1P_rel h2⟩

theorem hasO_pos : ∀ {cs : List C1}, hasO cs = true → 1 ≤ cs.length
  | [], h => by cases h
  | _ :: _, _ => by simp

theorem one_row {n k : Nat} {xs : List Value} (h : xs.length = n * k) (h' : xs.length = k) (hk : 1 ≤ k) : n = 1 := by
  have : n * k = 1 * k := by omega
  exact Nat.eq_of_mul_eq_mul_right (by omega) this

theorem sound_build1 (nid : Nat) (t : TypeId) (len : Nat) (parts : Array (Nat × Operand)) : Sound P D (oBuild1 P D nid t len parts.toList) (fun ρ => do pure (.value (← Instr.buildSlice t len (parts.map fun (i, x) => (i, ρ x))))) := by
  intro S r l h hps M w0 a w hRA
  have back : ∀ {l'}, (oBuildC P D nid t len parts.toList).run S = some (r, l') → UpTo P (Lands M w0 S a r) (((do pure (.value (← Instr.buildSlice t len (parts.map fun (i, x) => (i, a.eval x)))) : Sem Next)).run P w) := fun h => sound_buildC nid t len parts S r _ h hps M w0 a w hRA
  unfold oBuild1 at h
  generalize hpl : parts.toList = pl at h back
  split at h
  · rename_i x
    obtain ⟨av, l0, hav, h⟩ := rdA_run h
    split at h
    · rename_i ps
      split at h
      · rename_i cs hcs
        cases hO : hasO cs <;> simp only [hO, cond_true, cond_false] at h
        · exact back h
        · have hpos := hasO_pos hO
          split at h
          · rename_i e ht
            split at h
            · rename_i n hsz
              generalize hb : (Nat.beq len 1 && (Nat.beq n cs.length && (Nat.ble n 16777216 && zeroFits P e n))) = bb at h
              cases bb <;> simp only [cond_true, cond_false, run_fail] at h
              simp only [Bool.and_eq_true] at hb
              obtain ⟨l1, h⟩ := box_run h
              split at h
              · rename_i hun
                simp only [run_ret] at h
                obtain ⟨rfl, _⟩ := h
                have hl1 := Nat.eq_of_beq_eq_true hb.1
                subst hl1
                have hn := Nat.eq_of_beq_eq_true hb.2.1
                subst hn
                have h2 := Nat.le_of_ble_eq_true hb.2.2.1
                obtain ⟨σ, ν, hR, hA⟩ := hRA
                obtain ⟨cells, hv, hps'⟩ := evalA_rel hA hav
                have hc1 := c1sOf_rel hcs hps'
                have hlen := hc1.len
                have hfl : flat [a.eval x] = cells := by rw [hv]; simp [flat, Value.cells]
                have hcz : ∀ v ∈ [a.eval x], v.cells.size = cs.length := fun v hv' => by rw [List.mem_singleton.1 hv', hv]; simp [Value.cells, hlen]
                have hparts : (parts.map fun (p : Nat × Operand) => (p.1, a.eval p.2)).toList = ((List.range [a.eval x].length).map (0 + ·)).zip [a.eval x] := by
                  rw [Array.toList_map, hpl]
                  rfl
                have hrun := run_buildSliceS (P := P) (w := w) (parts := parts.map fun (p : Nat × Operand) => (p.1, a.eval p.2)) ht hsz hb.2.2.2 hpos (by simpa using h2) hparts hcz
                refine upTo_val hrun (lands_dynE (old := []) (row := none) (p := .rec1 cs) (xs := flat [a.eval x]) (n := 1) hR hA hun ?_ (by rw [hfl]; exact hc1) rfl (World.grownBy_alloc _ _ _) (by simp) (fun g hg => .inl ?_))
                · show (w.alloc _).ownsL 0 e cs.length _ 1 _
                  rw [hfl]
                  refine ⟨by rw [Nat.one_mul]; exact hlen, .inr ⟨w.heap.size, 1, _, rfl, Nat.zero_le _, Go.heap_alloc_new w _, Nat.le_refl _, ?_, ?_, ?_⟩⟩
                  · unfold maxLen; omega
                  · show 1 * cs.length ≤ cells.toArray.size
                    rw [List.size_toArray, hlen]; omega
                  · exact List.take_of_length_le (by rw [List.toList_toArray, hlen]; omega)
                · simp [Value.ownBlock] at hg; omega
              · simp at h
            · simp at h
          · simp at h
      · exact back h
    · exact back h
  · exact back h

theorem sound_append1 (nid : Nat) (x y : Operand) (t u ty : TypeId) : Sound P D (oAppend1 P D nid x y t u) (fun ρ => valOf (Builtin.append_ #[t, u] ty #[ρ x, ρ y])) := by
  intro S r l h hps M w0 a w hRA
  unfold oAppend1 at h
  obtain ⟨bv, l0, hbv, h1⟩ := rdA_run h
  clear h
  split at h1
  · rename_i b
    obtain ⟨l1, h⟩ := box_run h1
    clear h1
    split at h
    · rename_i e' cs hbx
      split at h
      · rename_i e ht
        split at h
        · rename_i n hsz
          generalize hb : (Nat.beq t u && (zeroFits P e n && (Nat.beq e e' && (Nat.beq n cs.length && Nat.ble 1 n)))) = bb at h
          cases bb <;> simp only [cond_true, cond_false, run_fail] at h
          simp only [Bool.and_eq_true] at hb
          have htu := Nat.eq_of_beq_eq_true hb.1
          subst htu
          have hee := Nat.eq_of_beq_eq_true hb.2.2.1
          subst hee
          have hn := Nat.eq_of_beq_eq_true hb.2.2.2.1
          subst hn
          have hpos := Nat.le_of_ble_eq_true hb.2.2.2.2
          obtain ⟨av, l2, hav, h2⟩ := rdA_run h
          clear h
          split at h2
          · obtain ⟨l3, h⟩ := box_run h2
            clear h2
            split at h
            · rename_i hun
              simp only [run_ret] at h
              obtain ⟨rfl, _⟩ := h
              have hbb : bytesOfT P e ≤ 140737488355328 := hps _ (by simp)
              obtain ⟨σ, ν, hR, hA⟩ := hRA
              have hx := evalA_rel hA hav
              have hxv : a.eval x = .slice none 0 0 := by have := hx.2; simpa [PartRel] using this
              obtain ⟨_, hal, h1c, hyv⟩ := evalA_rel hA hbv
              have hyv' : a.eval y = ν b := (List.cons.inj hyv).1
              have hbo := hR.boxes b
              rw [hbx] at hbo
              obtain ⟨m, xs, hown, hp, _⟩ := hbo
              have hown : w.ownsL 0 e cs.length (ν b) m xs := hown
              have hp' : C1sRel (S.env D M w0 σ ν) cs xs := hp
              have hlen := hp'.len
              have hm := one_row hown.1 hlen hpos
              subst hm
              rcases hown.2 with ⟨_, h0⟩ | ⟨g, cap, cur, hνe, _⟩
              · omega
              obtain ⟨v', w', hr, ho, hg, hgo⟩ := append_runS (P := P) (ty := ty) (w := w) (v := .slice none 0 0) (n := 0) (m := 1) (xs := []) (us := xs) (ao := some ⟨g, 0, none⟩) (cap' := cap) ht hsz hb.2.1 hpos (World.ownsL_nil _ _ _ _) (by rw [Nat.one_mul]; exact hlen) (fun u hu => hp'.oneCell u hu) (fun h => by cases h)
                (fun ad e j u hu => by
                  simp only [Option.some.injEq] at e
                  subst e
                  exact hown.cells (g := g) (by rw [hνe]; rfl) j u hu) (by omega) (by simpa using hbb)
              simp only [List.nil_append, Nat.zero_add] at ho
              refine upTo_val (v := v') (w' := w') (by rw [hxv, hyv', hνe]; exact hr) (lands_dynE (old := []) (row := none) (p := .rec1 cs) hR hA hun ho hp' (ownsL_one ho) hg (by simp) (fun g h' => .inl ?_))
              rcases hgo g h' with h'' | h''
              · exact h''
              · simp [Value.ownBlock] at h''
            · simp at h
          · simp at h2
        · simp at h
      · simp at h
    · exact sound_appendR nid x y t u ty S r _ h hps M w0 a w hRA
  · exact sound_appendR nid x y t u ty S r _ h1 hps M w0 a w hRA

theorem sound_len1 (x : Operand) (t ty : TypeId) : Sound P D (oLen1 P D x t) (fun ρ => valOf (Builtin.len_ #[t] ty #[ρ x])) := by
  intro S r l h hps M w0 a w hRA
  unfold oLen1 at h
  obtain ⟨av, l0, hav, h⟩ := rdA_run h
  split at h
  · rename_i b
    obtain ⟨l1, h⟩ := box_run h
    split at h
    · rename_i e' cs hbx
      split at h
      · rename_i e ht
        cases hbp : Nat.ble 1 cs.length <;> simp only [hbp, cond_true, cond_false, run_fail] at h
        have hpos := Nat.le_of_ble_eq_true hbp
        have hr := ok1_run h
        subst hr
        obtain ⟨σ, ν, hR, hA⟩ := hRA
        obtain ⟨_, hal, h1c, hv⟩ := evalA_rel hA hav
        have hv' : a.eval x = ν b := (List.cons.inj hv).1
        have hbo := hR.boxes b
        rw [hbx] at hbo
        obtain ⟨m, xs, hown, hp, _⟩ := hbo
        have hown : w.ownsL 0 e' cs.length (ν b) m xs := hown
        have hp' : C1sRel (S.env D M w0 σ ν) cs xs := hp
        have hm := one_row hown.1 hp'.len hpos
        subst hm
        rcases hown.2 with ⟨_, h0⟩ | ⟨g, cap, cur, hνe, _⟩
        · omega
        refine upTo_val (w' := w) ?_ (lands_pure hR hA rel_int)
        rw [hv', hνe]
        exact run_len_slice ht
      · simp at h
    · exact sound_lenM x t ty S r _ h hps M w0 a w hRA
  · exact sound_lenM x t ty S r _ h hps M w0 a w hRA

theorem sound_indexAddr1 (t : TypeId) (x y : Operand) : Sound P D (oIndexAddr1 P D t x y) (fun ρ => do pure (.value (← Instr.indexAt t (ρ x) (ρ y)))) := by
  intro S r l h hps M w0 a w hRA
  unfold oIndexAddr1 at h
  split at h
  · exact sound_indexAddrC t _ y S r _ h hps M w0 a w hRA
  · rename_i x' _
    obtain ⟨av, bv, l0, hav, hbv, h⟩ := pair_run h
    split at h
    · rename_i b kd lt i
      obtain ⟨l1, h⟩ := box_run h
      split at h
      · rename_i e' cs hbx
        split at h
        · rename_i e ht
          split at h
          · rename_i n hs
            cases hb : (Nat.beq n cs.length && Nat.ble 1 n) <;> simp only [hb, cond_true, cond_false, run_fail] at h
            simp only [Bool.and_eq_true] at hb
            have hn := Nat.eq_of_beq_eq_true hb.1
            subst hn
            have hpos := Nat.le_of_ble_eq_true hb.2
            have hr := ok1_run h
            subst hr
            have h0 : i = 0 := hps _ (by simp)
            subst h0
            obtain ⟨σ, ν, hR, hA⟩ := hRA
            obtain ⟨_, hal, h1c, hv⟩ := evalA_rel hA hav
            have hv' : a.eval x = ν b := (List.cons.inj hv).1
            have hbo := hR.boxes b
            rw [hbx] at hbo
            obtain ⟨m, xs, hown, hp, _⟩ := hbo
            have hown : w.ownsL 0 e' cs.length (ν b) m xs := hown
            have hp' : C1sRel (S.env D M w0 σ ν) cs xs := hp
            have hm := one_row hown.1 hp'.len hpos
            subst hm
            rcases hown.2 with ⟨_, h0⟩ | ⟨g, cap, cur, hνe, _⟩
            · omega
            refine upTo_val (w' := w) (v := .pointer (some ⟨g, 0, none⟩)) ?_ (lands_pure hR hA ⟨rfl, hal, g, by show (ν b).ownBlock = _; rw [hνe]; rfl, rfl⟩)
            rw [int_rel (evalA_rel hA hbv), hv', hνe]
            have := run_indexAt_slice (P := P) (b := g) (off := 0) (cap := cap) (n := 1) (k := kd) (i := 0) (w := w) ht hs (Int.le_refl _) (by omega)
            simpa using this
          · simp at h
        · simp at h
      · exact sound_indexAddrC t _ y S r _ h hps M w0 a w hRA
    · exact sound_indexAddrC t _ y S r _ h hps M w0 a w hRA

theorem sound_load1 (t : TypeId) (x : Operand) : Sound P D (oLoad1 P D t x) (fun ρ => do pure (.value (← Instr.loadAt t (ρ x)))) := by
  intro S r l h hps M w0 a w hRA
  unfold oLoad1 at h
  split at h
  · exact sound_loadC t _ S r _ h hps M w0 a w hRA
  · rename_i x' _
    obtain ⟨av, l0, hav, h1⟩ := rdA_run h
    clear h
    split at h1
    · rename_i b sh i off
      obtain ⟨l1, h⟩ := box_run h1
      clear h1
      split at h
      · rename_i e' cs hbx
        cases hsh : shEq sh [] <;> simp only [hsh, cond_true, cond_false, run_fail] at h
        have := shEq_eq hsh
        subst this
        split at h
        · rename_i n hsz
          split at h
          · rename_i p1 m p3 hsp
            split at h
            · rename_i v hm
              simp only [run_ret] at h
              obtain ⟨rfl, _⟩ := h
              obtain ⟨σ, ν, hR, hA⟩ := hRA
              obtain ⟨hone, hal, g, hg, hv⟩ := evalA_rel hA hav
              simp only [List.cons.injEq, and_true] at hv
              have hbo := hR.boxes b
              rw [hbx] at hbo
              obtain ⟨n', xs, hown, hp, _⟩ := hbo
              have hown : w.ownsL 0 e' cs.length (ν b) n' xs := hown
              have hp' : C1sRel (S.env D M w0 σ ν) cs xs := hp
              obtain ⟨d1, d2, d3, hd, k1, k2, r1, r2, r3⟩ := splitP_sound hsp (c1P_rel hp')
              refine land_load hR hA hm r2 (by rw [k2]; exact hsz) hv (fun j u hu => ?_)
              have h1 := row_get hd hu
              have h3 := hown.cells (g := g) hg _ _ h1
              rw [Addr.add_lit] at h3 ⊢
              rw [← h3]
              have e0 : rsz ([] : List FK) = 0 := rfl
              congr 2
              rw [e0]
              omega
            · simp at h
          · simp at h
        · simp at h
      · exact sound_loadC t _ S r _ h hps M w0 a w hRA
    · exact sound_loadC t _ S r _ h1 hps M w0 a w hRA

end
end Go.Abs

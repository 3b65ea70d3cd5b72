/- An evaluator over descriptions of values: the newer operations. -/
import Derived.Test.YtakigppkbolmnaaAbsO
namespace Go.Abs
open Go.RowKit
section
variable {P : Program} {D : Dom}

theorem intsAt_sound {E : Env} {ps : List (Part D.τ)} {base N : Nat} {k : IntKind} {l : List Int} {cs : List Value} (h : intsAt D ps base N = some (k, l)) (hp : PartsRel D E ps cs) :
    ∃ c1 c3, cs = c1 ++ (l.map (Value.int k) ++ c3) ∧ c1.length = base ∧ l.length = N := by
  unfold intsAt at h
  split at h
  · rename_i m1 m m2 hsp
    split at h
    · split at h
      · rename_i kd _ il hil
        simp only [Option.some.injEq, Prod.mk.injEq] at h
        obtain ⟨rfl, rfl⟩ := h
        obtain ⟨c1, c2, c3, he, hl1, hl2, hr1, hr2, hr3⟩ := splitP_sound hsp hp
        have hc2 := allInts_rel hil hr2
        subst hc2
        exact ⟨c1, c3, he, hl1, by simpa using hl2⟩
      · cases h
    · cases h
  · cases h

theorem RR.glob_now {M : Mem} {w0 : World} {σ : Loc} {ν : Nat → Value} {S : St D.τ} {w : World} (hR : RR D M w0 σ ν S w) {g : Nat} {k : IntKind} {l : List Int} (h : D.glob g = some (k, l)) :
    ¬ M g ∧ (∀ i, i < l.length → w0.cell? ⟨g, i, none⟩ = some (.int k (l.getD i 0))) ∧ ∀ i, i < l.length → w.cell? ⟨g, i, none⟩ = some (.int k (l.getD i 0)) := by
  obtain ⟨h1, h2⟩ := hR.glob.1 g k l h
  have h3 := hR.glob.2 g k l h
  refine ⟨h3, h2, fun i hi => ?_⟩
  rw [← h2 i hi]
  exact World.cell?_of_block (hR.kept.block g h1 h3)

theorem RR.globAt {M : Mem} {w0 : World} {σ : Loc} {ν : Nat → Value} {S : St D.τ} {w : World} (hR : RR D M w0 σ ν S w) : GlobAt D w := fun g k l h =>
  ⟨Nat.lt_of_lt_of_le (hR.glob.1 g k l h).1 hR.kept.size, (hR.glob_now h).2.2⟩

theorem getElem?_map_int {k : IntKind} {l : List Int} {j : Nat} {v : Value} (h : (l.map (Value.int k))[j]? = some v) : j < l.length ∧ v = .int k (l.getD j 0) := by
  have hj : j < l.length := by have := (List.getElem?_eq_some_iff.1 h).1; simpa using this
  rw [getD_ints hj] at h
  exact ⟨hj, (Option.some.inj h).symm⟩

theorem sound_load2 (t : TypeId) (x : Operand) : Sound P D (oLoad2 P D t x) (fun ρ => do pure (.value (← Instr.loadAt t (ρ x)))) := by
  intro S r l h hps M w0 a w hRA
  unfold oLoad2 at h
  split at h
  · rename_i g
    obtain ⟨σ, ν, hR, hA⟩ := hRA
    split at h
    · rename_i k il hg
      split at h
      · rename_i n hsz
        cases hb : (aggB P t && Nat.beq n il.length) <;> simp only [hb, cond_true, cond_false, run_fail] at h
        simp only [Bool.and_eq_true] at hb
        simp only [run_ret] at h
        obtain ⟨rfl, _⟩ := h
        have hn := Nat.eq_of_beq_eq_true hb.2
        subst hn
        have hc : ∀ j v, (il.map (Value.int k))[j]? = some v → w.cell? ((⟨g, 0, none⟩ : Addr).add j) = some v := by
          intro j v hv
          obtain ⟨hj, rfl⟩ := getElem?_map_int hv
          rw [Addr.add_lit, Nat.zero_add]
          exact (hR.glob_now hg).2.2 j hj
        have hrun := (run_loadVarB (P := P) (a := ⟨g, 0, none⟩) (cs := il.map (Value.int k)) (by rw [List.length_map]; exact hsz) hc).1 hb.1
        exact upTo_load rfl hrun (lands_pure hR hA ⟨_, rfl, _, [], by simp, ⟨rfl, rfl⟩, rfl⟩)
      · simp at h
    · simp at h
  · rename_i x' _
    split at h
    · simp at h
    rename_i n hsz
    obtain ⟨av, l0, hav, h⟩ := rdA_run h
    split at h
    · rename_i b base N i
      obtain ⟨σ, ν, hR, hA⟩ := hRA
      have hx := evalA_rel hA hav
      obtain ⟨hone, hal, hiN, hv⟩ := hx
      simp only [List.cons.injEq, and_true] at hv
      have hv' : a.eval x = .pointer (some ⟨σ b, base + i, none⟩) := hv
      cases hagg : aggB P t <;> simp only [hagg, cond_true, cond_false, run_fail] at h
      obtain ⟨l1, h⟩ := box_run h
      have hb := hR.boxes b
      split at h
      · rename_i ty ps hbx
        rw [hbx] at hb
        obtain ⟨cs, hg, hp⟩ := hb
        have hg' : w.heap[σ b]? = some (.cells cs ty (0, 0)) := hg
        split at h
        · rename_i k il hil
          have hr := ok1_run h
          subst hr
          obtain ⟨c1, c3, he, hl1, hl2⟩ := intsAt_sound hil hp
          have hcell := cells_at (w := w) hg' he
          rw [hl1] at hcell
          have hc := hcell i _ (getD_ints (by omega))
          rw [Addr.add_lit] at hc
          exact upTo_load hv' (run_loadVar_one hsz hagg hc) (lands_pure hR hA ⟨rfl, rfl⟩)
        · simp at h
      · simp at h
    · rename_i k m il
      obtain ⟨σ, ν, hR, hA⟩ := hRA
      obtain ⟨hone, hlen, ad, hv, M1, W1, hB, hsp, hc⟩ := evalA_rel hA hav
      simp only [List.cons.injEq, and_true] at hv
      cases hb : (aggB P t && Nat.beq n m) <;> simp only [hb, cond_true, cond_false, run_fail] at h
      simp only [Bool.and_eq_true] at hb
      simp only [run_ret] at h
      obtain ⟨rfl, _⟩ := h
      have hn := Nat.eq_of_beq_eq_true hb.2
      have hcc : ∀ j v, (il.map (Value.int k))[j]? = some v → w.cell? (ad.add j) = some v := by
        intro j v hv
        obtain ⟨hj, rfl⟩ := getElem?_map_int hv
        obtain ⟨q1, q2⟩ := hc j hj
        rw [← q2]
        have hab : (ad.add j).block = ad.block := by
          rcases ad with ⟨_, _, sp⟩
          cases sp with
          | none => rw [Addr.add_lit]
          | some _ => cases hsp
        have hlt : (ad.add j).block < W1.heap.size := World.block_lt_of_cell? _ _ q2
        rw [hab] at hlt
        exact World.cell?_of_block (by rw [hab]; exact (hR.base_now hB _ q1 hlt).2)
      have hrun := (run_loadVarB (P := P) (a := ad) (cs := il.map (Value.int k)) (by rw [List.length_map, hlen, ← hn]; exact hsz) hcc).1 hb.1
      exact upTo_load hv hrun (lands_pure hR hA ⟨_, rfl, _, [], by simp, ⟨hlen, rfl⟩, rfl⟩)
    · rename_i b i
      obtain ⟨l1, h⟩ := box_run h
      split at h
      · rename_i e k ll hbx
        obtain ⟨σ, ν, hR, hA⟩ := hRA
        obtain ⟨hone, hal, g, hg, hv⟩ := evalA_rel hA hav
        simp only [List.cons.injEq, and_true] at hv
        cases hagg : aggB P t <;> simp only [hagg, cond_true, cond_false, run_fail] at h
        have hr := ok1_run h
        subst hr
        have hb := hR.boxes b
        rw [hbx] at hb
        obtain ⟨n', xs, hown, hp, _⟩ := hb
        have hlt : i < ll.length := hps _ (by simp)
        obtain ⟨hxl, hxs⟩ := hp
        have hix : i < xs.length := by omega
        have hc := hown.cells hg i _ (List.getElem?_eq_getElem hix)
        rw [Addr.add_lit, Nat.zero_add] at hc
        obtain ⟨M1, W1, hB, hs⟩ := hxs i _ (List.getElem?_eq_getElem hix)
        refine upTo_load hv (run_loadVar_one hsz hagg hc) (lands_pure hR hA ⟨?_, _, rfl, M1, W1, hB, hs⟩)
        obtain ⟨ao, cap, e1, _⟩ := hs
        rw [e1]; rfl
      · exact sound_load t _ S r _ h hps M w0 a w hRA
    · exact sound_load t _ S r _ h hps M w0 a w hRA

theorem sound_store2 (t : TypeId) (x y : Operand) : Sound P D (oStore2 P D t x y) (fun ρ => do Instr.storeAt t (ρ x) (ρ y); pure .skip) := by
  intro S r l h hps M w0 a w hRA
  unfold oStore2 at h
  obtain ⟨av, l0, hav, h⟩ := rdA_run h
  split at h
  · rename_i b base N i
    obtain ⟨σ, ν, hR, hA⟩ := hRA
    obtain ⟨hone, hal, hiN, hv⟩ := evalA_rel hA hav
    simp only [List.cons.injEq, and_true] at hv
    have hv' : a.eval x = .pointer (some ⟨σ b, base + i, none⟩) := hv
    obtain ⟨ay, l1, hay, h⟩ := rdA_run h
    have hy := evalA_rel hA hay
    split at h
    · rename_i k lt v
      obtain ⟨l2, h⟩ := box_run h
      have hb := hR.boxes b
      split at h
      · rename_i ty ps hbx
        rw [hbx] at hb
        obtain ⟨cs, hg, hp⟩ := hb
        have hg' : w.heap[σ b]? = some (.cells cs ty (0, 0)) := hg
        split at h
        · rename_i p1 p2 p3 hsp
          split at h
          · rename_i il hil
            split at h
            · rename_i hsz
              simp only [run_ret] at h
              obtain ⟨rfl, _⟩ := h
              obtain ⟨c1, c2, c3, he, hl1, hl2, hr1, hr2, hr3⟩ := splitP_sound hsp hp
              have hc2 := allInts_rel hil hr2
              subst hc2
              rw [List.length_map] at hl2
              have hyv : a.eval y = .int k v := int_rel hy
              have hc1 : (a.eval y).cells.toList = [Value.int k v] := by rw [hyv]; rfl
              have hcs : cs.size = base + (N + c3.length) := by rw [← Array.length_toList, he, List.length_append, List.length_append, List.length_map, hl1, hl2]
              have hst := run_storeVarB (P := P) (w := w) (v := a.eval y) (n := 1) rfl hsz (by rw [hc1]; rfl) (by rw [hc1]; simp [Value.oneCell']) hg' (off := base + i) (by omega)
              have hset : cs.toList.take (base + i) ++ (a.eval y).cells.toList ++ cs.toList.drop (base + i + 1) = c1 ++ ((il.set i v).map (Value.int k) ++ c3) := by
                rw [hc1, he, ← hl1]
                have hi' : i < il.length := by omega
                rw [List.take_length_add_append, List.take_append_of_le_length (by rw [List.length_map]; omega), Nat.add_assoc, List.drop_length_add_append, List.drop_append_of_le_length (by rw [List.length_map]; omega),
                  ← take_map_set hi']
                simp only [List.append_assoc]
              rw [hset] at hst
              refine upTo_store hv' hst ?_
              unfold Lands
              simp only [bx_one]
              have hle : (S.env D M w0 σ ν).le ((S.upd (.box b (.fixed ty (p1 ++ (.arr k N (il.set i v) :: p3))))).env D M w0 σ ν) := env_upd_box (by trivial)
              refine ⟨σ, ν, hR.updBox (by trivial) (by rw [hbx]; rfl) ⟨_, setRow_heap w _ cs _ ty _ hg', ?_⟩ ?_, hA.mono hle rfl rfl, undef_rel⟩
              · have hq : PartsRel D (S.env D M w0 σ ν) (p1 ++ (.arr k N (il.set i v) :: p3)) (c1 ++ ((il.set i v).map (Value.int k) ++ c3)) := hr1.append ⟨_, _, rfl, ⟨by simpa using hl2, rfl⟩, hr3⟩
                simpa using hq.mono hle
              · rw [hbx]
                exact grownBy_setRow w _ _
            · simp at h
          · simp at h
        · simp at h
      · simp at h
    · simp at h
  · exact sound_store t x y S r _ h hps M w0 a w hRA

theorem sound_indexAddr2 (t : TypeId) (x y : Operand) : Sound P D (oIndexAddr2 P D t x y) (fun ρ => do pure (.value (← Instr.indexAt t (ρ x) (ρ y)))) := by
  intro S r l h hps M w0 a w hRA
  unfold oIndexAddr2 at h
  split at h
  · rename_i g
    obtain ⟨σ, ν, hR, hA⟩ := hRA
    split at h
    · rename_i k il hg
      split at h
      · rename_i n e ht
        split at h
        · rename_i hs
          cases hb : Nat.beq n il.length <;> simp only [hb, cond_true, cond_false, run_fail] at h
          obtain ⟨ay, l1, hay, h⟩ := rdA_run h
          have hy := evalA_rel hA hay
          split at h
          · rename_i kd lt i
            have hr := ok1_run h
            subst hr
            have h0 : 0 ≤ i := hps _ (by simp)
            have h1 : i < n := hps _ (by simp)
            have hn := Nat.eq_of_beq_eq_true hb
            obtain ⟨q1, q2, q3⟩ := hR.glob_now hg
            refine upTo_val (w' := w) (v := .pointer (some ⟨g, i.toNat, none⟩)) ?_ (lands_pure hR hA ⟨rfl, _, rfl, M, w0, .inl ⟨rfl, rfl⟩, rfl, q1, q2 _ (by omega)⟩)
            have hxe : a.eval (.global g) = .pointer (some ⟨g, 0, none⟩) := rfl
            rw [int_rel hy, hxe]
            have := run_indexAt_array (P := P) (b := g) (off := 0) (k := kd) (w := w) ht hs h0 h1
            simpa using this
          · simp at h
        · simp at h
      · simp at h
    · simp at h
  · rename_i x' _
    obtain ⟨av, bv, l0, hav, hbv, h⟩ := pair_run h
    split at h
    · rename_i b off kd lit i
      split at h
      · rename_i n e ht
        split at h
        · rename_i hs
          obtain ⟨l1, h⟩ := box_run h
          split at h
          · exact sound_indexAddr t _ y S r _ h hps M w0 a w hRA
          · rename_i ty ps _ _
            cases hla : (lit && !arrAt D ps off) <;> simp only [hla, cond_true, cond_false] at h
            case true => exact sound_indexAddr t _ y S r _ h hps M w0 a w hRA
            obtain ⟨σ, ν, hR, hA⟩ := hRA
            have hr := ok1_run h
            subst hr
            have h01 : 0 ≤ i ∧ i < n := by
              cases hd : (lit && (decide (0 ≤ i) && decide (i < n)))
              · simp only [hd, cond_false] at hps
                exact ⟨hps _ (by simp), hps _ (by simp)⟩
              · simp only [Bool.and_eq_true, decide_eq_true_eq] at hd
                exact hd.2
            obtain ⟨h0, h1⟩ := h01
            obtain ⟨hone, hal, hv⟩ := evalA_rel hA hav
            simp only [List.cons.injEq, and_true] at hv
            have hv' : a.eval x = .pointer (some ⟨σ b, off, none⟩) := hv
            refine upTo_val (w' := w) (v := .pointer (some ⟨σ b, off + i.toNat, none⟩)) ?_ (lands_pure hR hA ⟨rfl, hal, by omega, rfl⟩)
            rw [int_rel (evalA_rel hA hbv), hv']
            have := run_indexAt_array (P := P) (b := σ b) (off := off) (k := kd) (w := w) ht hs h0 h1
            simpa using this
          · simp at h
        · exact sound_indexAddr t _ y S r _ h hps M w0 a w hRA
      · exact sound_indexAddr t _ y S r _ h hps M w0 a w hRA
    · rename_i k il kd lt i
      obtain ⟨σ, ν, hR, hA⟩ := hRA
      obtain ⟨hone, u, hu, hsl⟩ := evalA_rel hA hav
      simp only [List.cons.injEq, and_true] at hu
      split at h
      · rename_i e ht
        split at h
        · rename_i hs
          have hr := ok1_run h
          subst hr
          have h0 : 0 ≤ i := hps _ (by simp)
          have h1 : i < il.length := hps _ (by simp)
          rw [← hu] at hsl
          obtain ⟨ao, cap, e1, _⟩ := id hsl
          rw [e1] at hsl
          obtain ⟨b, off, rfl, _, hm, hc⟩ := words_wref (i := i.toNat) hsl (by omega)
          refine upTo_val (w' := w) ?_ (lands_pure hR hA ⟨rfl, _, rfl, _, _, .inr ⟨rfl, rfl⟩, rfl, hm, hc⟩)
          rw [int_rel (evalA_rel hA hbv), e1]
          have := run_indexAt_slice (P := P) (b := b) (off := off) (cap := cap) (k := kd) (w := w) ht hs h0 h1
          simpa using this
        · simp at h
      · simp at h
    · rename_i b base N lo n cap kd lt i
      obtain ⟨σ, ν, hR, hA⟩ := hRA
      obtain ⟨hone, hal, hlo, hnc, hcm, hv⟩ := evalA_rel hA hav
      simp only [List.cons.injEq, and_true] at hv
      have hv' : a.eval x = .slice (some ⟨σ b, base + lo, none⟩) n cap := hv
      split at h
      · rename_i e ht
        split at h
        · rename_i hs
          have hr := ok1_run h
          subst hr
          have h0 : 0 ≤ i := hps _ (by simp)
          have h1 : i < n := hps _ (by simp)
          refine upTo_val (w' := w) (v := .pointer (some ⟨σ b, base + (lo + i.toNat), none⟩)) ?_ (lands_pure hR hA ⟨rfl, hal, by omega, rfl⟩)
          rw [int_rel (evalA_rel hA hbv), hv']
          have := run_indexAt_slice (P := P) (b := σ b) (off := base + lo) (cap := cap) (k := kd) (w := w) ht hs h0 h1
          simpa [Nat.add_assoc] using this
        · simp at h
      · simp at h
    · rename_i b kd lt i
      obtain ⟨l1, h⟩ := box_run h
      split at h
      · rename_i e' k ll hbx
        obtain ⟨σ, ν, hR, hA⟩ := hRA
        obtain ⟨hone, hal, h1c, hv⟩ := evalA_rel hA hav
        simp only [List.cons.injEq, and_true] at hv
        have hv' : a.eval x = ν b := hv
        split at h
        · rename_i e ht
          split at h
          · rename_i hs
            have hr := ok1_run h
            subst hr
            have h0 : 0 ≤ i := hps _ (by simp)
            have h1 : i < ll.length := hps _ (by simp)
            have hb := hR.boxes b
            rw [hbx] at hb
            obtain ⟨n', xs, hown, hp, _⟩ := hb
            have hown' : w.ownsL 0 e' 1 (ν b) n' xs := hown
            obtain ⟨hxl, _⟩ := hp
            have hn' : xs.length = n' := by have := hown'.1; simpa using this
            rcases hown'.2 with ⟨hn, hz⟩ | ⟨g, cap, cur, hνe, _⟩
            · omega
            · refine upTo_val (w' := w) (v := .pointer (some ⟨g, i.toNat, none⟩)) ?_ (lands_pure hR hA ⟨rfl, hal, g, by show (ν b).ownBlock = _; rw [hνe]; rfl, rfl⟩)
              rw [int_rel (evalA_rel hA hbv), hv', hνe]
              have := run_indexAt_slice (P := P) (b := g) (off := 0) (cap := cap) (n := n') (k := kd) (w := w) ht hs h0 (by omega)
              simpa using this
          · simp at h
        · simp at h
      · exact sound_indexAddr t _ y S r _ h hps M w0 a w hRA
    · exact sound_indexAddr t _ y S r _ h hps M w0 a w hRA

theorem sound_slice2 (Γ : Gam D) (nid : Nat) (dst : Option Tmp) (t : TypeId) (x : Operand) (lo hi : Option Operand) : Sound P D (oSlice2 P D Γ nid dst t x lo hi) (fun ρ => do pure (.value (← Instr.sliceAt t (ρ x) (lo.map ρ) (hi.map ρ) none))) := by
  intro S r l h hps M w0 a w hRA
  unfold oSlice2 at h
  obtain ⟨av, l0, hav, h⟩ := rdA_run h
  split at h
  · rename_i k il
    obtain ⟨σ, ν, hR, hA⟩ := hRA
    obtain ⟨hone, u, hu, hsl⟩ := evalA_rel hA hav
    simp only [List.cons.injEq, and_true] at hu
    rw [← hu] at hsl
    split at h
    · rename_i e ht
      split at h
      · rename_i hs
        obtain ⟨ao, cap, e1, hcap, _⟩ := id hsl
        rw [e1] at hsl
        have fin : ∀ {p q : Int}, r = ⟨.v (.one (.pw k ((il.take q.toNat).drop p.toNat))), [], [0 ≤ p, p ≤ q, q ≤ il.length]⟩ → Bnd 0 (lo.map a.eval) p → Bnd il.length (hi.map a.eval) q →
            UpTo P (Lands M w0 S a r) ((do pure (Next.value (← Instr.sliceAt t (a.eval x) (lo.map a.eval) (hi.map a.eval) none)) : Sem Next).run P w) := by
          rintro p q rfl b1 b2
          have h0 : 0 ≤ p := hps _ (by simp)
          have h1 : p ≤ q := hps _ (by simp)
          have h2 : q ≤ il.length := hps _ (by simp)
          refine upTo_val (w' := w) (v := sliced ao p.toNat q.toNat cap 1) ?_ (lands_pure hR hA ⟨rfl, _, rfl, sl_sub hsl h0 h1 h2⟩)
          rw [e1]
          exact run_slice_bnd ht hs b1 b2 h0 h1 (by omega)
        rcases bnd_run h with ⟨l2, e2, h2⟩ | ⟨y1, kd1, lt1, i1, l2, e2, hy1, h2⟩
        · rcases bnd_run h2 with ⟨l3, e3, h3⟩ | ⟨y2, kd2, lt2, i2, l3, e3, hy2, h3⟩
          · exact fin (ok1_run h3) (by rw [e2]; exact Bnd.none) (by rw [e3]; exact Bnd.none)
          · exact fin (ok1_run h3) (by rw [e2]; exact Bnd.none) (by rw [e3]; exact bnd_value hA hy2)
        · rcases bnd_run h2 with ⟨l3, e3, h3⟩ | ⟨y2, kd2, lt2, i2, l3, e3, hy2, h3⟩
          · exact fin (ok1_run h3) (by rw [e2]; exact bnd_value hA hy1) (by rw [e3]; exact Bnd.none)
          · exact fin (ok1_run h3) (by rw [e2]; exact bnd_value hA hy1) (by rw [e3]; exact bnd_value hA hy2)
      · simp at h
    · simp at h
  · rename_i b off
    obtain ⟨l1, h⟩ := box_run h
    split at h
    · exact sound_sliceS nid _ t x lo hi S r _ h hps M w0 a w hRA
    · rename_i ty ps hne hbx
      obtain ⟨σ, ν, hR, hA⟩ := hRA
      obtain ⟨hone, hal, hv⟩ := evalA_rel hA hav
      simp only [List.cons.injEq, and_true] at hv
      have hv' : a.eval x = .pointer (some ⟨σ b, off, none⟩) := hv
      split at h
      · rename_i n e ht
        split at h
        · rename_i hs
          cases hn : (Nat.ble n 4194304 && Nat.ble 1 n) <;> simp only [hn, cond_true, cond_false, run_fail] at h
          simp only [Bool.and_eq_true] at hn
          have hn1 := Nat.le_of_ble_eq_true hn.1
          have hn2 := Nat.le_of_ble_eq_true hn.2
          cases hf : frozenAt D Γ dst <;> simp only [hf, cond_true, cond_false] at h
          · have fin : ∀ {p q : Int} {l'}, (ok1 (.av b off n p.toNat (q.toNat - p.toNat) (n - p.toNat)) [0 ≤ p, p ≤ q, q ≤ n, p < n] : Rd D.τ (Res D.τ)).run S = some (r, l') → Bnd 0 (lo.map a.eval) p → Bnd n (hi.map a.eval) q →
                UpTo P (Lands M w0 S a r) ((do pure (Next.value (← Instr.sliceAt t (a.eval x) (lo.map a.eval) (hi.map a.eval) none)) : Sem Next).run P w) := by
              intro p q l' h b1 b2
              have hr := ok1_run h
              subst hr
              have h0 : 0 ≤ p := hps _ (by simp)
              have h1 : p ≤ q := hps _ (by simp)
              have h2 : q ≤ n := hps _ (by simp)
              have h3 : p < n := hps _ (by simp)
              refine upTo_val (w' := w) (v := .slice (some ⟨σ b, off + p.toNat, none⟩) (q.toNat - p.toNat) (n - p.toNat)) ?_ (lands_pure hR hA ⟨rfl, hal, by omega, by omega, by unfold maxLen; omega, rfl⟩)
              rw [hv']
              exact run_slice_arr ht hs b1 b2 h0 h1 h2 h3
            rcases bnd_run h with ⟨l2, e2, h2⟩ | ⟨y1, kd1, lt1, i1, l2, e2, hy1, h2⟩
            · rcases bnd_run h2 with ⟨l3, e3, h3⟩ | ⟨y2, kd2, lt2, i2, l3, e3, hy2, h3⟩
              · exact fin h3 (by rw [e2]; exact Bnd.none) (by rw [e3]; exact Bnd.none)
              · exact fin h3 (by rw [e2]; exact Bnd.none) (by rw [e3]; exact bnd_value hA hy2)
            · rcases bnd_run h2 with ⟨l3, e3, h3⟩ | ⟨y2, kd2, lt2, i2, l3, e3, hy2, h3⟩
              · exact fin h3 (by rw [e2]; exact bnd_value hA hy1) (by rw [e3]; exact Bnd.none)
              · exact fin h3 (by rw [e2]; exact bnd_value hA hy1) (by rw [e3]; exact bnd_value hA hy2)
          · split at h
            · split at h
              · rename_i k il hil
                simp only [run_ret] at h
                obtain ⟨rfl, _⟩ := h
                have hb := hR.boxes b
                rw [hbx] at hb
                obtain ⟨cs, hg, hp⟩ := hb
                have hg' : w.heap[σ b]? = some (.cells cs ty (0, 0)) := hg
                obtain ⟨c1, c3, he, hl1, hl2⟩ := intsAt_sound hil hp
                have hcell := cells_at (w := w) hg' he
                rw [hl1] at hcell
                have hrun := run_slice_arr (P := P) (g := σ b) (off := off) (lo := none) (hi := none) (w := w) ht hs (Bnd.none (d := 0)) (Bnd.none (d := n)) (Int.le_refl _) (by omega) (Int.le_refl _) (by omega)
                simp only [Int.toNat_zero, Nat.add_zero, Nat.sub_zero, Int.toNat_natCast] at hrun
                refine upTo_val (w' := w) (v := .slice (some ⟨σ b, off, none⟩) n n) ?_ ?_
                · rw [hv']; exact hrun
                · refine ⟨⟨σ.f, w, fun g => σ.zm g ∨ Fp D (S.env D M w0 σ ν) b (S.box b) g, σ.φ⟩, ν, ?_, ?_, ?_⟩
                  · rw [bx_one]; exact hR.freeze b
                  · rw [bx_one]; exact hA.mono (freeze_le hR b) rfl rfl
                  · refine ⟨rfl, _, rfl, some ⟨σ b, off, none⟩, n, by rw [hl2], by omega, by unfold maxLen; omega, (fun h => by cases h), fun i hi => ⟨_, _, rfl, fun hz => hz (.inr (by rw [hbx]; rfl)), ?_⟩⟩
                    have := hcell i _ (getD_ints hi)
                    rwa [Addr.add_lit] at this
              · simp at h
            · simp at h
        · simp at h
      · simp at h
    · simp at h
  · exact sound_sliceS nid _ t x lo hi S r _ h hps M w0 a w hRA

end
end Go.Abs

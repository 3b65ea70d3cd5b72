/- Several texts put together: AbsR AbsV AbsF. -/
import Derived.Test.YtgfinnhfpiadiaaMrg3
namespace Go.Abs
open Go.RowKit
section
variable {P : Program} {D : Dom}
theorem fdPart_rel {E : Env} {f : FK} {r : Rec} {j : Nat} {cs : List Value} : PartRel D E (fdPart f r j) cs ↔ FdRel E.σ f r j cs := by
  cases f <;> exact Iff.rfl
theorem recParts_rel {E : Env} : ∀ {sh : List FK} {j : Nat} {r : Rec} {cs : List Value}, PartsRel D E (recParts sh j r) cs ↔ RecRel E.σ sh j r cs
  | [], _, _, _ => Iff.rfl
  | f :: fs, j, r, cs => by
    constructor
    · rintro ⟨c1, c2, e, h1, h2⟩
      exact ⟨c1, c2, e, fdPart_rel.1 h1, recParts_rel.1 h2⟩
    · rintro ⟨c1, c2, e, h1, h2⟩
      exact ⟨c1, c2, e, fdPart_rel.2 h1, recParts_rel.2 h2⟩
theorem rec_at (pre : Rec) (x : Fd) (r : Rec) : (pre ++ x :: r)[pre.length]? = some x := by
  rw [List.getElem?_append_right (Nat.le_refl _), Nat.sub_self]; rfl
theorem mkRec_step {σ : Loc} {f : FK} {fs : List FK} {pre r : Rec} {x : Fd} {c1 c2 : List Value} (h1 : FdRel σ f (pre ++ x :: r) pre.length c1) (h2 : RecRel σ fs (pre ++ [x]).length ((pre ++ [x]) ++ r) c2) :
    RecRel σ (f :: fs) pre.length (pre ++ x :: r) (c1 ++ c2) := by
  refine ⟨c1, c2, rfl, h1, ?_⟩
  rw [List.length_append, List.append_assoc] at h2
  exact h2
theorem mkRec_sound {E : Env} : ∀ {sh : List FK} {ps : List (Part D.τ)} {r : Rec} {cs : List Value} (pre : Rec), mkRec D sh ps = some r → PartsRel D E ps cs → RecRel E.σ sh pre.length (pre ++ r) cs
  | [], [], r, cs, pre, h, hp => by
    simp only [mkRec, Option.some.injEq] at h
    subst h
    cases hp
    rfl
  | [], _ :: _, r, cs, pre, h, hp => by simp [mkRec] at h
  | f :: fs, ps, r, cs, pre, h, hp => by
    unfold mkRec at h
    split at h
    · rename_i e1; cases e1
    · rename_i e1; cases e1
    · rename_i k fs' k' lt n ps' e1
      cases e1
      split at h
      · rename_i hk
        subst hk
        obtain ⟨r', hr', rfl⟩ := Option.map_eq_some_iff.1 h
        obtain ⟨c1, c2, rfl, h1, h2⟩ := hp
        refine mkRec_step ?_ (mkRec_sound (pre ++ [.i n]) hr' h2)
        show c1 = [.int k (recI _ _)]
        rw [recI, rec_at]
        exact h1
      · cases h
    · rename_i fs' lt x ps' e1
      cases e1
      obtain ⟨r', hr', rfl⟩ := Option.map_eq_some_iff.1 h
      obtain ⟨c1, c2, rfl, h1, h2⟩ := hp
      refine mkRec_step ?_ (mkRec_sound (pre ++ [.b x]) hr' h2)
      show c1 = [.bool (recB _ _)]
      rw [recB, rec_at]
      exact h1
    · rename_i fs' x ps' e1
      cases e1
      obtain ⟨r', hr', rfl⟩ := Option.map_eq_some_iff.1 h
      obtain ⟨c1, c2, rfl, h1, h2⟩ := hp
      refine mkRec_step ?_ (mkRec_sound (pre ++ [.s x]) hr' h2)
      show c1 = [.string (recS _ _)]
      rw [recS, rec_at]
      exact h1
    · rename_i k fs' k' l ps' e1
      cases e1
      split at h
      · rename_i hk
        subst hk
        obtain ⟨r', hr', rfl⟩ := Option.map_eq_some_iff.1 h
        obtain ⟨c1, c2, rfl, ⟨v, e, hs⟩, h2⟩ := hp
        refine mkRec_step ⟨v, e, ?_⟩ (mkRec_sound (pre ++ [.w l]) hr' h2)
        rw [recW, rec_at]
        exact hs
      · cases h
    · rename_i k fs' ps' e1
      cases e1
      obtain ⟨r', hr', rfl⟩ := Option.map_eq_some_iff.1 h
      obtain ⟨c1, c2, rfl, h1, h2⟩ := hp
      refine mkRec_step ⟨.slice none 0 0, h1, ?_⟩ (mkRec_sound (pre ++ [.w []]) hr' h2)
      rw [recW, rec_at]
      exact ⟨none, 0, rfl, Nat.le_refl _, Nat.zero_le _, fun _ => rfl, fun i hi => by cases hi⟩
    · rename_i ps' k n fs' e1
      cases e1
      split at h
      · rename_i m q hd
        split at h
        · rename_i l hl
          obtain ⟨r', hr', rfl⟩ := Option.map_eq_some_iff.1 h
          obtain ⟨c1, c2, rfl, hlen, h1, h2⟩ := dropP_sound hd hp
          have hc := allInts_rel hl h1
          refine mkRec_step ?_ (mkRec_sound (pre ++ [.w l]) hr' h2)
          show (recW _ _).length = n ∧ c1 = (recW _ _).map (.int k)
          rw [recW, rec_at]
          subst hc
          rw [List.length_map] at hlen
          exact ⟨hlen, rfl⟩
        · cases h
      · cases h
    · cases h
theorem le_rows {i n s : Nat} (h : i < n) : i * s + s ≤ n * s := by
  have := Nat.mul_le_mul_right s (show i + 1 ≤ n from h)
  rwa [Nat.add_mul, Nat.one_mul] at this
theorem row_split {xs : List Value} {n s i : Nat} (hl : xs.length = n * s) (hi : i < n) :
    ∃ c1 c2 c3, xs = c1 ++ (c2 ++ c3) ∧ c1.length = i * s ∧ c2.length = s ∧ c2 = (xs.drop (i * s)).take s := by
  have h := le_rows (s := s) hi
  refine ⟨xs.take (i * s), (xs.drop (i * s)).take s, (xs.drop (i * s)).drop s, by rw [List.take_append_drop, List.take_append_drop], by rw [List.length_take]; omega, by rw [List.length_take, List.length_drop]; omega, rfl⟩
theorem row_set {c1 c2 c3 d2 : List Value} {s i j : Nat} (h1 : c1.length = i * s) (h2 : c2.length = s) (h3 : d2.length = s) :
    ((c1 ++ (d2 ++ c3)).drop (j * s)).take s = if j = i then d2 else ((c1 ++ (c2 ++ c3)).drop (j * s)).take s := by
  by_cases hji : j = i
  · subst hji
    rw [if_pos rfl, ← h1, List.drop_left, ← h3, List.take_left]
  · rw [if_neg hji]
    rcases Nat.lt_or_ge j i with h | h
    · have := le_rows (s := s) h
      rw [List.drop_append_of_le_length (by omega), List.drop_append_of_le_length (by omega), List.take_append_of_le_length (by rw [List.length_drop]; omega), List.take_append_of_le_length (by rw [List.length_drop]; omega)]
    · have := le_rows (s := s) (show i < j by omega)
      have e : ∀ z : List Value, z.length = s → (c1 ++ (z ++ c3)).drop (j * s) = c3.drop (j * s - i * s - s) := fun z hz => by
        rw [List.drop_append, List.drop_of_length_le (by omega), List.nil_append, List.drop_append, List.drop_of_length_le (by omega), List.nil_append, h1, hz]
      rw [e d2 h3, e c2 h2]
theorem row_get {xs : List Value} {c1 c2 c3 : List Value} (he : xs = c1 ++ (c2 ++ c3)) {j : Nat} {v : Value} (h : c2[j]? = some v) : xs[c1.length + j]? = some v := by
  have hj := (List.getElem?_eq_some_iff.1 h).1
  rw [he, List.getElem?_append_right (by omega), Nat.add_sub_cancel_left, List.getElem?_append_left hj]
  exact h
theorem getD_rec {ll : List Rec} {i : Nat} (h : i < ll.length) : ll[i]? = some (ll.getD i []) := by
  rw [List.getD_eq_getElem?_getD, List.getElem?_eq_getElem h]; rfl
theorem zm_now {M : Mem} {w0 : World} {σ : Loc} {ν : Nat → Value} {S : St D.τ} {w : World} (hR : RR D M w0 σ ν S w) {g : Nat} (hg : σ.zm g) {a : Addr} (ha : a.block = g) {v : Value} (h : σ.zw.cell? a = some v) : w.cell? a = some v := by
  rw [← h]
  exact World.cell?_of_block (by rw [ha]; exact (hR.zk g hg).2)
theorem sound_lenR (x : Operand) (t ty : TypeId) : Sound P D (oLenR P D x t) (fun ρ => valOf (Builtin.len_ #[t] ty #[ρ x])) := by
  intro S r l h hps M w0 a w hRA
  unfold oLenR at h
  obtain ⟨av, l0, hav, h⟩ := rdA_run h
  split at h
  · obtain ⟨σ, ν, hR, hA⟩ := hRA
    obtain ⟨hone, u, hu, ao, cap, e1, _⟩ := evalA_rel hA hav
    simp only [List.cons.injEq, and_true] at hu
    split at h
    · rename_i e ht
      have hr := ok1_run h
      subst hr
      refine upTo_val (w' := w) ?_ (lands_pure hR hA rel_int)
      rw [hu, e1]
      exact run_len_slice ht
    · simp at h
  · rename_i b
    obtain ⟨l1, h⟩ := box_run h
    split at h
    · rename_i e' sh ll hbx
      obtain ⟨σ, ν, hR, hA⟩ := hRA
      obtain ⟨hone, hal, h1c, hv⟩ := evalA_rel hA hav
      simp only [List.cons.injEq, and_true] at hv
      have hv' : a.eval x = ν b := hv
      split at h
      · rename_i e ht
        cases hbp : Nat.ble 1 (rsz sh) <;> simp only [hbp, cond_true, cond_false, run_fail] at h
        have hpos := Nat.le_of_ble_eq_true hbp
        have hr := ok1_run h
        subst hr
        have hb := hR.boxes b
        rw [hbx] at hb
        obtain ⟨n', xs, hown, hp, _⟩ := hb
        have hown' : w.ownsL 0 e' (rsz sh) (ν b) n' xs := hown
        have hn' : ll.length = n' := by
          have := hown'.1
          rw [hp.1] at this
          exact Nat.eq_of_mul_eq_mul_right hpos this
        refine upTo_val (w' := w) ?_ (lands_pure hR hA rel_int)
        rw [hn', hv']
        rcases hown'.2 with ⟨hn, hz⟩ | ⟨g, cap, cur, hνe, _⟩
        · rw [hn, hz]; exact run_len_slice ht
        · rw [hνe]; exact run_len_slice ht
      · simp at h
    · exact sound_len2 x t ty S r _ h hps M w0 a w hRA
  · exact sound_len2 x t ty S r _ h hps M w0 a w hRA
theorem sound_indexAddrR (t : TypeId) (x y : Operand) : Sound P D (oIndexAddrR P D t x y) (fun ρ => do pure (.value (← Instr.indexAt t (ρ x) (ρ y)))) := by
  intro S r l h hps M w0 a w hRA
  unfold oIndexAddrR at h
  split at h
  · exact sound_indexAddr2 t _ y S r _ h hps M w0 a w hRA
  · rename_i x' _
    obtain ⟨av, bv, l0, hav, hbv, h⟩ := pair_run h
    split at h
    · rename_i b kd lt i
      obtain ⟨l1, h⟩ := box_run h
      split at h
      · rename_i e' sh ll hbx
        obtain ⟨σ, ν, hR, hA⟩ := hRA
        obtain ⟨hone, hal, h1c, hv⟩ := evalA_rel hA hav
        simp only [List.cons.injEq, and_true] at hv
        have hv' : a.eval x = ν b := hv
        split at h
        · rename_i e ht
          split at h
          · rename_i n hs
            cases hb : (Nat.beq n (rsz sh) && Nat.ble 1 n) <;> simp only [hb, cond_true, cond_false, run_fail] at h
            simp only [Bool.and_eq_true] at hb
            have hn := Nat.eq_of_beq_eq_true hb.1
            have hpos := Nat.le_of_ble_eq_true hb.2
            subst hn
            have hr := ok1_run h
            subst hr
            have h0 : 0 ≤ i := hps _ (by simp)
            have h1 : i < ll.length := hps _ (by simp)
            have hbb := hR.boxes b
            rw [hbx] at hbb
            obtain ⟨n', xs, hown, hp, _⟩ := hbb
            have hown' : w.ownsL 0 e' (rsz sh) (ν b) n' xs := hown
            have hn' : ll.length = n' := by
              have := hown'.1
              rw [hp.1] at this
              exact Nat.eq_of_mul_eq_mul_right (by omega) this
            rcases hown'.2 with ⟨hn, hz⟩ | ⟨g, cap, cur, hνe, _⟩
            · omega
            · refine upTo_val (w' := w) (v := .pointer (some ⟨g, i.toNat * rsz sh + 0, none⟩)) ?_ (lands_pure hR hA ⟨rfl, hal, g, by show (ν b).ownBlock = _; rw [hνe]; rfl, rfl⟩)
              rw [int_rel (evalA_rel hA hbv), hv', hνe]
              have := run_indexAt_slice (P := P) (b := g) (off := 0) (cap := cap) (n := n') (k := kd) (w := w) ht hs h0 (by omega)
              rw [Nat.zero_add] at this
              rw [Nat.add_zero]
              exact this
          · simp at h
        · simp at h
      · exact sound_indexAddr2 t _ y S r _ h hps M w0 a w hRA
    · rename_i sh ll kd lt i
      obtain ⟨σ, ν, hR, hA⟩ := hRA
      obtain ⟨hone, u, hu, ao, cap, e1, _, _, _, hc⟩ := evalA_rel hA hav
      simp only [List.cons.injEq, and_true] at hu
      split at h
      · rename_i e ht
        split at h
        · rename_i n hs
          cases hb : Nat.beq n (rsz sh) <;> simp only [hb, cond_true, cond_false, run_fail] at h
          have hn := Nat.eq_of_beq_eq_true hb
          subst hn
          have hr := ok1_run h
          subst hr
          have h0 : 0 ≤ i := hps _ (by simp)
          have h1 : i < ll.length := hps _ (by simp)
          obtain ⟨g, o, vs, q1, q2, q3, q4⟩ := hc i.toNat _ (getD_rec (by omega))
          refine upTo_val (w' := w) (v := .pointer (some ⟨g, (o + i.toNat * rsz sh) + 0, none⟩)) ?_ (lands_pure hR hA ⟨rfl, g, o + i.toNat * rsz sh, vs, rfl, q2, q3, q4⟩)
          rw [int_rel (evalA_rel hA hbv), hu, e1, q1]
          exact run_indexAt_slice (P := P) (b := g) (off := o) (cap := cap) (n := ll.length) (k := kd) (w := w) ht hs h0 h1
        · simp at h
      · simp at h
    · exact sound_indexAddr2 t _ y S r _ h hps M w0 a w hRA
theorem sound_fieldAddrR (s : TypeId) (x : Operand) (i : Nat) : Sound P D (oFieldAddrR P D s x i) (fun ρ => do pure (.value (← Instr.fieldAt s (ρ x) i))) := by
  intro S r l h hps M w0 a w hRA
  unfold oFieldAddrR at h
  obtain ⟨av, l0, hav, h⟩ := rdA_run h
  have run : ∀ {fs : Array Field} {f : Field} {n g o : Nat}, P.underlying s = some (.struct fs) → fs[i]? = some f → szOf P f.type = some (n + 1) → a.eval x = .pointer (some ⟨g, o, none⟩) →
      (Instr.fieldAt s (a.eval x) i).run P w = .ok (.pointer (some ⟨g, o + f.offset, none⟩)) w := by
    intro fs f n g o hfs hf hn hv
    unfold Instr.fieldAt
    rw [hv]
    simp [run_underlying hfs, hf, Instr.sureAddr, fieldPlace, run_sizeOfB hn, Addr.add_lit]
  split at h
  · rename_i b sh k off
    obtain ⟨σ, ν, hR, hA⟩ := hRA
    obtain ⟨hone, hal, g, hg, hv⟩ := evalA_rel hA hav
    simp only [List.cons.injEq, and_true] at hv
    split at h
    · rename_i fs hfs
      split at h
      · rename_i f hf
        split at h
        · rename_i n hn
          have hr := ok1_run h
          subst hr
          refine upTo_val (run hfs hf hn hv) (lands_pure hR hA ⟨rfl, hal, g, hg, by rw [Nat.add_assoc]⟩)
        · simp at h
      · simp at h
    · simp at h
  · rename_i sh r' off
    obtain ⟨σ, ν, hR, hA⟩ := hRA
    obtain ⟨hone, g, o, vs, hv, hz, hrr, hc⟩ := evalA_rel hA hav
    simp only [List.cons.injEq, and_true] at hv
    split at h
    · rename_i fs hfs
      split at h
      · rename_i f hf
        split at h
        · rename_i n hn
          have hr := ok1_run h
          subst hr
          refine upTo_val (run hfs hf hn hv) (lands_pure hR hA ⟨rfl, g, o, vs, by rw [Nat.add_assoc], hz, hrr, hc⟩)
        · simp at h
      · simp at h
    · simp at h
  · exact sound_fieldAddr s x i S r _ h hps M w0 a w hRA
theorem land_load {M : Mem} {w0 : World} {σ : Loc} {ν : Nat → Value} {S : St D.τ} {a : Act} {w : World} (hR : RR D M w0 σ ν S w) (hA : RA D M w0 σ ν S a) {t : TypeId} {x : Operand} {b : Addr} {m : List (Part D.τ)} {v : AV D.τ} {cs : List Value} {ps : List Prop}
    (hm : mkAV (aggB P t) m = some v) (hp : PartsRel D (S.env D M w0 σ ν) m cs) (hs : szOf P t = some cs.length) (hx : a.eval x = .pointer (some b)) (hc : ∀ j u, cs[j]? = some u → w.cell? (b.add j) = some u) :
    UpTo P (Lands M w0 S a ⟨v, [], ps⟩) ((do pure (Next.value (← Instr.loadAt t (a.eval x))) : Sem Next).run P w) := by
  obtain ⟨hr1, hr2⟩ := run_loadVarB (P := P) (a := b) (cs := cs) hs hc
  rcases mkAV_rel hm hp with ⟨hg, hv⟩ | ⟨hg, u, hd, hv⟩
  · exact upTo_load hx (hr1 hg) (lands_pure hR hA hv)
  · exact upTo_load hx (hr2 hg u hd) (lands_pure hR hA hv)
theorem sound_loadR (t : TypeId) (x : Operand) : Sound P D (oLoadR P D t x) (fun ρ => do pure (.value (← Instr.loadAt t (ρ x)))) := by
  intro S r l h hps M w0 a w hRA
  unfold oLoadR at h
  split at h
  · exact sound_load2 t _ S r _ h hps M w0 a w hRA
  · rename_i x' _
    obtain ⟨av, l0, hav, h⟩ := rdA_run h
    split at h
    · rename_i b sh i off
      obtain ⟨l1, h⟩ := box_run h
      split at h
      · rename_i e' sh' ll hbx
        cases hsh : shEq sh sh' <;> simp only [hsh, cond_true, cond_false, run_fail] at h
        have := shEq_eq hsh
        subst this
        obtain ⟨σ, ν, hR, hA⟩ := hRA
        obtain ⟨hone, hal, g, hg, hv⟩ := evalA_rel hA hav
        simp only [List.cons.injEq, and_true] at hv
        split at h
        · rename_i n hsz
          split at h
          · rename_i p1 m p3 hsp
            split at h
            · rename_i v hm
              simp only [run_ret] at h
              obtain ⟨rfl, _⟩ := h
              have hlt : i < ll.length := hps _ (by simp)
              have hbb := hR.boxes b
              rw [hbx] at hbb
              obtain ⟨n', xs, hown, hp, _⟩ := hbb
              have hown' : w.ownsL 0 e' (rsz sh) (ν b) n' xs := hown
              obtain ⟨c1, c2, c3, he, hl1, hl2, hc2⟩ := row_split hp.1 hlt
              have hrec := hp.2 i _ (getD_rec hlt)
              rw [← hc2] at hrec
              obtain ⟨d1, d2, d3, hd, k1, k2, r1, r2, r3⟩ := splitP_sound hsp (recParts_rel.2 hrec)
              refine land_load hR hA hm r2 (by rw [k2]; exact hsz) hv (fun j u hu => ?_)
              have h1 := row_get hd hu
              have h2 := row_get he h1
              have h3 := hown'.cells (g := g) hg _ _ h2
              rw [Addr.add_lit] at h3 ⊢
              rw [← h3]
              congr 2
              omega
            · simp at h
          · simp at h
        · simp at h
      · simp at h
    · rename_i sh r' off
      obtain ⟨σ, ν, hR, hA⟩ := hRA
      obtain ⟨hone, g, o, vs, hv, hz, hrr, hc⟩ := evalA_rel hA hav
      simp only [List.cons.injEq, and_true] at hv
      split at h
      · rename_i n hsz
        split at h
        · rename_i p1 m p3 hsp
          split at h
          · rename_i v hm
            simp only [run_ret] at h
            obtain ⟨rfl, _⟩ := h
            obtain ⟨d1, d2, d3, hd, k1, k2, r1, r2, r3⟩ := splitP_sound hsp (recParts_rel.2 hrr)
            refine land_load hR hA hm r2 (by rw [k2]; exact hsz) hv (fun j u hu => ?_)
            have h1 := row_get hd hu
            have h3 := zm_now hR hz rfl (hc _ _ h1)
            rw [Addr.add_lit, ← h3]
            congr 2
            omega
          · simp at h
        · simp at h
      · simp at h
    · exact sound_load2 t _ S r _ h hps M w0 a w hRA
theorem sound_storeR (t : TypeId) (x y : Operand) : Sound P D (oStoreR P D t x y) (fun ρ => do Instr.storeAt t (ρ x) (ρ y); pure .skip) := by
  intro S r l h hps M w0 a w hRA
  unfold oStoreR at h
  obtain ⟨av, l0, hav, h⟩ := rdA_run h
  split at h
  · rename_i b sh i off
    obtain ⟨ay, l1, hay, h⟩ := rdA_run h
    obtain ⟨l2, h⟩ := box_run h
    split at h
    · rename_i e' sh' ll hbx
      cases hsh : shEq sh sh' <;> simp only [hsh, cond_true, cond_false, run_fail] at h
      have := shEq_eq hsh
      subst this
      obtain ⟨σ, ν, hR, hA⟩ := hRA
      obtain ⟨hone, hal, g, hg, hv⟩ := evalA_rel hA hav
      simp only [List.cons.injEq, and_true] at hv
      have hy := evalA_rel hA hay
      split at h
      · rename_i n qs hsz hqs
        split at h
        · rename_i p1 p2 p3 hsp
          split at h
          · rename_i r' hmk
            simp only [run_ret] at h
            obtain ⟨rfl, _⟩ := h
            have hlt : i < ll.length := hps _ (by simp)
            have hsum : (qs.map (psize D)).sum = n := hps _ (by simp)
            have hbb := hR.boxes b
            rw [hbx] at hbb
            obtain ⟨n', xs, hown, hp, h1c⟩ := hbb
            have hown' : w.ownsL 0 e' (rsz sh) (ν b) n' xs := hown
            obtain ⟨c1, c2, c3, he, hl1, hl2, hc2⟩ := row_split hp.1 hlt
            have hrec := hp.2 i _ (getD_rec hlt)
            rw [← hc2] at hrec
            obtain ⟨d1, d2, d3, hd, k1, k2, r1, r2, r3⟩ := splitP_sound hsp (recParts_rel.2 hrec)
            have hq := partsOf_rel hqs hy
            have hql : (a.eval y).cells.toList.length = n := by rw [hq.len]; exact hsum
            have hnew : RecRel (S.env D M w0 σ ν).σ sh 0 r' (d1 ++ ((a.eval y).cells.toList ++ d3)) := mkRec_sound [] hmk (r1.append (hq.append r3))
            rcases hown'.2 with ⟨hνn, _⟩ | ⟨g', cap, cur, hνe, _, hcur, hnc, hcm, hcs, htk⟩
            · have : (ν b).ownBlock = some g := hg
              rw [hνn] at this
              cases this
            have hgg : g' = g := by
              have : (ν b).ownBlock = some g := hg
              rw [hνe] at this
              simpa [Value.ownBlock] using this
            subst hgg
            have hxl := hown'.1
            have hcurl : cur.toList = (c1 ++ ((d1 ++ (d2 ++ d3)) ++ c3)) ++ cur.toList.drop (n' * rsz sh) := by
              rw [← hd, ← he, ← htk, List.take_append_drop]
            have hle := le_rows (s := rsz sh) hlt
            have hcz : cur.size = (n' * rsz sh) + (cur.toList.drop (n' * rsz sh)).length := by
              have := congrArg List.length hcurl
              rw [← hd, ← he, List.length_append, Array.length_toList, hxl] at this
              exact this
            have hd2 : d1.length + (n + d3.length) = rsz sh := by
              rw [← hl2, hd, List.length_append, List.length_append, k1, k2]
            have hst := run_storeVarB (P := P) (w := w) (v := a.eval y) (n := n) rfl hsz hql hq.oneCell hcur (off := i * rsz sh + off) (by rw [hcz, ← hxl, hp.1]; omega)
            have hset : cur.toList.take (i * rsz sh + off) ++ (a.eval y).cells.toList ++ cur.toList.drop (i * rsz sh + off + n) = (c1 ++ ((d1 ++ ((a.eval y).cells.toList ++ d3)) ++ c3)) ++ cur.toList.drop (n' * rsz sh) := by
              generalize cur.toList.drop (n' * rsz sh) = Z at hcurl
              rw [hcurl]
              have e1 : i * rsz sh + off = (c1 ++ d1).length := by rw [List.length_append, hl1, k1]
              have e2 : (c1 ++ ((d1 ++ (d2 ++ d3)) ++ c3)) ++ Z = (c1 ++ d1) ++ (d2 ++ (d3 ++ (c3 ++ Z))) := by simp only [List.append_assoc]
              rw [e2, e1, List.take_left, ← k2, List.drop_length_add_append, List.drop_left]
              simp only [List.append_assoc]
            rw [hset] at hst
            refine upTo_store hv hst ?_
            unfold Lands
            simp only [bx_one]
            have hle2 : (S.env D M w0 σ ν).le ((S.upd (.box b (.dyn e' (.lrs sh (ll.set i r'))))).env D M w0 σ ν) := env_upd_box (by trivial)
            have hnl : (d1 ++ ((a.eval y).cells.toList ++ d3)).length = rsz sh := by
              rw [List.length_append, List.length_append, hql, ← hd2]
            refine ⟨σ, ν, hR.updBox (by trivial) (by rw [hbx]; rfl) ?_ ?_, hA.mono hle2 rfl rfl, undef_rel⟩
            · have hxs2 : (c1 ++ ((d1 ++ ((a.eval y).cells.toList ++ d3)) ++ c3)).length = n' * rsz sh := by
                have hnl' := hnl
                have hxl' := hxl
                rw [he] at hxl'
                simp only [List.length_append] at hnl' hxl' ⊢
                omega
              refine ⟨n', c1 ++ ((d1 ++ ((a.eval y).cells.toList ++ d3)) ++ c3), show World.ownsL _ 0 e' (rsz sh) _ _ _ from ⟨hxs2, .inr ⟨g', cap, _, hνe, Nat.zero_le _, setRow_heap w _ cur _ e' _ hcur, hnc, hcm, ?_, ?_⟩⟩, ⟨?_, fun j rj hj => ?_⟩, h1c⟩
              · rw [List.size_toArray, List.length_append, hxs2]
                omega
              · rw [List.toList_toArray, ← hxs2, List.take_left]
              · rw [hxs2, List.length_set, ← hxl, hp.1]
              · rw [row_set (c2 := c2) hl1 hl2 hnl]
                by_cases hji : j = i
                · subst hji
                  rw [List.getElem?_set_self hlt] at hj
                  simp only [Option.some.injEq] at hj
                  subst hj
                  rw [if_pos rfl]
                  exact hnew
                · rw [if_neg hji, ← he]
                  rw [List.getElem?_set_ne (fun e => hji e.symm)] at hj
                  exact hp.2 j rj hj
            · rw [hbx]
              show w.grownBy _ (ν b).ownBlock
              rw [hνe]
              exact grownBy_setRow w _ _
          · simp at h
        · simp at h
      · simp at h
    · simp at h
  · exact sound_store2 t x y S r _ h hps M w0 a w hRA
end
end Go.Abs
namespace Go.Abs
open Go.RowKit
section
variable {P : Program} {D : Dom}
theorem rowsOf_sound {α : Type} {M : Mem} {w0 : World} {σ : Loc} {ν : Nat → Value} {S : St D.τ} {w : World} (hR : RR D M w0 σ ν S w) {e : TypeId} {k : IntKind} {q : Part D.τ} {f : List (List Int) → Rd D.τ α} {r : α} {l : List Ref} {v : Value}
    (h : (rowsOf D e k q f).run S = some (r, l)) (hp : PartRel D (S.env D M w0 σ ν) q [v]) :
    ∃ ll l', (f ll).run S = some (r, l') ∧ ∃ ao cap us, v = .slice ao us.length cap ∧ WsRel (S.env D M w0 σ ν) k ll us ∧ (ao = none → us = [] ∧ cap = 0) ∧ ∀ ad, ao = some ad → ∀ j u, us[j]? = some u → w.cell? (ad.add j) = some u := by
  unfold rowsOf at h
  split at h
  · simp only [PartRel, List.cons.injEq, and_true] at hp
    exact ⟨[], l, h, none, 0, [], hp, ⟨rfl, fun i u h => by simp at h⟩, fun _ => ⟨rfl, rfl⟩, fun ad h => by cases h⟩
  · rename_i k' ll
    split at h
    · rename_i hk
      subst hk
      obtain ⟨v', e1, ao, cap, e2, h1, h2, h3, h4⟩ := hp
      simp only [List.cons.injEq, and_true] at e1
      subst e1
      cases ao with
      | none =>
        have hc := h3 rfl
        have hl : ll = [] := List.eq_nil_of_length_eq_zero (by omega)
        subst hl
        subst hc
        exact ⟨[], l, h, none, 0, [], e2, ⟨rfl, fun i u h => by simp at h⟩, fun _ => ⟨rfl, rfl⟩, fun ad h => by cases h⟩
      | some ad =>
        have key : ∀ i, i < ll.length → ∃ u, w.cell? (ad.add i) = some u ∧ ∃ M' W', Base (S.env D M w0 σ ν) M' W' ∧ SlRel M' W' k (ll.getD i []) u := by
          intro i hi
          obtain ⟨b, off, u, q1, q2, q3, q4⟩ := h4 i hi
          simp only [Option.some.injEq] at q1
          subst q1
          refine ⟨u, ?_, _, _, .inl ⟨rfl, rfl⟩, q4⟩
          rw [Addr.add_lit, ← q3]
          exact World.cell?_of_block (hR.kept.block b (World.block_lt_of_cell? _ _ q3) q2)
        refine ⟨ll, l, h, some ad, cap, (List.range ll.length).map (fun i => (w.cell? (ad.add i)).getD undef), by rw [e2]; simp, ⟨by simp, fun i u hu => ?_⟩, (fun h => by cases h), fun ad' e j u hu => ?_⟩
        · have hi : i < ll.length := by have := (List.getElem?_eq_some_iff.1 hu).1; simpa using this
          obtain ⟨u', q1, q2⟩ := key i hi
          simp only [List.getElem?_map, List.getElem?_range hi, Option.map_some, q1, Option.getD_some, Option.some.injEq] at hu
          subst hu
          exact q2
        · simp only [Option.some.injEq] at e
          subst e
          have hi : j < ll.length := by have := (List.getElem?_eq_some_iff.1 hu).1; simpa using this
          obtain ⟨u', q1, q2⟩ := key j hi
          simp only [List.getElem?_map, List.getElem?_range hi, Option.map_some, q1, Option.getD_some, Option.some.injEq] at hu
          subst hu
          exact q1
    · simp at h
  · rename_i c
    obtain ⟨l1, h⟩ := box_run h
    split at h
    · rename_i e' k' ll hbx
      cases he : Nat.beq e e' <;> simp only [he, cond_true, cond_false, run_fail] at h
      split at h
      · rename_i hk
        subst hk
        have hb := hR.boxes c
        rw [hbx] at hb
        obtain ⟨n, xs, hown, ⟨hxl, hxs⟩, _⟩ := hb
        have hown' : w.ownsL 0 e' 1 (ν c) n xs := hown
        have hv : v = ν c := (List.cons.inj hp.2.2).1
        have hn : xs.length = n := by have := hown'.1; simpa using this
        rcases hown'.2 with ⟨hνe, h0⟩ | ⟨g, cap, cur, hνe, _, hcur, hnc, hcm, hcs, htk⟩
        · have hx : xs = [] := List.eq_nil_of_length_eq_zero (by omega)
          subst hx
          exact ⟨ll, _, h, none, 0, [], by rw [hv, hνe]; rfl, ⟨hxl, fun i u h => by simp at h⟩, fun _ => ⟨rfl, rfl⟩, fun ad h => by cases h⟩
        · refine ⟨ll, _, h, some ⟨g, 0, none⟩, cap, xs, by rw [hv, hνe, hn], ⟨hxl, hxs⟩, (fun h => by cases h), fun ad e j u hu => ?_⟩
          simp only [Option.some.injEq] at e
          subst e
          exact hown'.cells (g := g) (by rw [hνe]; rfl) j u hu
      · simp at h
    · simp at h
  · simp at h
theorem sound_append2 (nid : Nat) (x y : Operand) (t u ty : TypeId) : Sound P D (oAppend2 P D nid x y t u) (fun ρ => valOf (Builtin.append_ #[t, u] ty #[ρ x, ρ y])) := by
  intro S r l h hps M w0 a w hRA
  unfold oAppend2 at h
  split at h
  · rename_i e ht
    split at h
    · rename_i k hk
      split at h
      · rename_i hs
        obtain ⟨σ, ν, hR, hA⟩ := hRA
        cases hb : (Nat.beq t u && zeroSl P e) <;> simp only [hb, cond_true, cond_false, run_fail] at h
        simp only [Bool.and_eq_true] at hb
        have htu := Nat.eq_of_beq_eq_true hb.1
        subst htu
        obtain ⟨av, l0, hav, h⟩ := rdA_run h
        have hx := evalA_rel hA hav
        split at h
        · rename_i p
          obtain ⟨bv, l1, hbv, h⟩ := rdA_run h
          have hy := evalA_rel hA hbv
          split at h
          · rename_i q
            obtain ⟨ll, l2, h, ao, cap, us, hye, hus, hnil, hnews⟩ := rowsOf_sound hR h hy.2
            obtain ⟨l3, h⟩ := box_run h
            split at h
            · rename_i hun
              split at h
              · simp only [run_ret] at h
                obtain ⟨rfl, _⟩ := h
                have hxv : a.eval x = .slice none 0 0 := by have := hx.2; simpa [PartRel] using this
                have b2 : ll.length * bytesOfT P e ≤ 140737488355328 := hps _ (by simp)
                have b1 : ll.length ≤ 9223372036854775807 := hps _ (by simp)
                obtain ⟨v', w', hr, ho, hg, hgo⟩ := append_runV (P := P) (ty := ty) (w := w) (v := .slice none 0 0) (n := 0) (xs := []) (us := us) (cap' := cap) ht hs hb.2 (World.ownsL_nil _ _ _ _) hus.one hnil hnews (by rw [hus.1]; omega) (by rw [hus.1]; simpa using b2)
                simp only [List.nil_append, Nat.zero_add] at ho
                refine upTo_val (v := v') (w' := w') (by rw [hxv, hye]; exact hr) (lands_dyn (old := []) (row := none) hR hA hun ho ⟨hus.1, hus.2⟩ (ownsL_one ho) hg (by simp) (fun g h' => .inl ?_))
                rcases hgo g h' with h'' | h''
                · exact h''
                · simp [Value.ownBlock] at h''
              · rename_i b _ _ _
                obtain ⟨l4, h⟩ := box_run h
                have hbb := hR.boxes b
                split at h
                · rename_i e' k' xl hbx
                  split at h
                  · rename_i hk'
                    subst hk'
                    generalize hbe : Nat.beq e e' = be at h
                    cases be <;> simp only [cond_true, cond_false, run_fail] at h
                    have hee := Nat.eq_of_beq_eq_true hbe
                    subst hee
                    simp only [run_ret] at h
                    obtain ⟨rfl, _⟩ := h
                    have b2 : (xl.length + ll.length) * bytesOfT P e ≤ 140737488355328 := hps _ (by simp)
                    have b1 : xl.length + ll.length ≤ 9223372036854775807 := hps _ (by simp)
                    rw [hbx] at hbb
                    obtain ⟨n, xs, hown, hxs, _⟩ := hbb
                    have hown : w.ownsL 0 _ 1 _ n xs := hown
                    have hn : xs.length = n := by have := hown.1; simpa using this
                    subst hn
                    have hxv : a.eval x = ν b := by
                      have h9 : [a.eval x] = [ν b] := hx.2.2.2
                      simpa using h9
                    obtain ⟨v', w', hr, ho, hg, hgo⟩ := append_runV (P := P) (ty := ty) (w := w) (v := ν b) (us := us) (cap' := cap) ht hs hb.2 hown hus.one hnil hnews (by rw [hxs.1, hus.1]; exact b1) (by rw [hxs.1, hus.1]; exact b2)
                    have hblk : ∀ g, (ν b).ownBlock = some g → ∃ b' ∈ [b], Fp D (S.env D M w0 σ ν) b' (S.box b') g := fun g h' => ⟨b, by simp, by rw [hbx]; exact h'⟩
                    have hws := WsRel.append (E := S.env D M w0 σ ν) (k := k) ⟨hxs.1, hxs.2⟩ hus
                    refine upTo_val (v := v') (w' := w') (by rw [hxv, hye]; exact hr) (lands_dyn (old := [b]) (row := (ν b).ownBlock) hR hA hun ho ⟨hws.1, hws.2⟩ (ownsL_one ho) hg hblk (fun g h' => ?_))
                    rcases hgo g h' with h'' | h''
                    · exact .inl h''
                    · exact .inr (hblk g h'')
                  · simp at h
                · simp at h
              · simp at h
            · simp at h
          · simp at h
        · simp at h
      · simp at h
    · exact sound_append nid x y t u ty S r l h hps M w0 a w hRA
  · simp at h
theorem zeroFits_spec {e : TypeId} {n : Nat} (h : zeroFits P e n = true) : ∃ i z, P.info? e = some i ∧ i.zero = some z ∧ z.cells.size = n := by
  unfold zeroFits at h
  split at h
  · rename_i z hz
    obtain ⟨i, hi, hzz⟩ := Option.bind_eq_some_iff.1 hz
    exact ⟨i, z, hi, hzz, Nat.eq_of_beq_eq_true h⟩
  · cases h
theorem info_of {e : TypeId} {i : TypeInfo} {s : Nat} (hi : P.info? e = some i) (hs : szOf P e = some s) : i.size = s := by
  obtain ⟨i', d, hi', hsz, hd⟩ := szOf_spec hs
  rw [hi] at hi'
  simp only [Option.some.injEq] at hi'
  subst hi'
  exact hsz
def flat (vs : List Value) : List Value := vs.flatMap fun v => v.cells.toList
theorem flat_len {s : Nat} : ∀ {vs : List Value}, (∀ v ∈ vs, v.cells.size = s) → (flat vs).length = vs.length * s
  | [], _ => by simp [flat]
  | v :: vs, h => by
    have ih := flat_len (vs := vs) (s := s) fun u hu => h u (List.mem_cons_of_mem _ hu)
    have hv := h v (List.mem_cons_self ..)
    simp only [flat, List.flatMap_cons, List.length_append, Array.length_toList, List.length_cons] at ih ⊢
    rw [ih, hv, Nat.add_mul, Nat.one_mul, Nat.add_comm]
theorem flat_get {s : Nat} : ∀ {vs : List Value}, (∀ v ∈ vs, v.cells.size = s) → ∀ (i : Nat) v, vs[i]? = some v → ((flat vs).drop (i * s)).take s = v.cells.toList
  | [], _, i, v, h => by simp at h
  | u :: vs, h, i, v, hi => by
    have hu := h u (List.mem_cons_self ..)
    have hul : u.cells.toList.length = s := by rw [Array.length_toList]; exact hu
    cases i with
    | zero =>
      simp only [List.getElem?_cons_zero, Option.some.injEq] at hi
      subst hi
      simp only [flat, List.flatMap_cons, Nat.zero_mul, List.drop_zero]
      rw [← hul, List.take_left]
    | succ i =>
      have ih := flat_get (vs := vs) (s := s) (fun w hw => h w (List.mem_cons_of_mem _ hw)) i v (by simpa using hi)
      simp only [flat, List.flatMap_cons] at ih ⊢
      rw [show (i + 1) * s = u.cells.toList.length + i * s from by rw [hul, Nat.add_mul]; omega, List.drop_length_add_append]
      exact ih
theorem fill_seqS (s : Nat) : ∀ (vs : List Value) (m : Nat) (cs : Array Value), cs.size = (m + vs.length) * s → (∀ v ∈ vs, v.cells.size = s) →
    Instr.fill (fun i => some (i * s, s)) cs (((List.range vs.length).map (m + ·)).zip vs) = some (cs.toList.take (m * s) ++ flat vs).toArray
  | [], m, cs, h, _ => by simp [Instr.fill, flat]; rw [List.take_of_length_le (by simp at h ⊢; omega)]
  | v :: vs, m, cs, h, h1 => by
    have hv := h1 v (List.mem_cons_self ..)
    simp only [List.length_cons] at h
    have hfit : m * s + s ≤ cs.size := by rw [h, ← Nat.succ_mul]; exact Nat.mul_le_mul_right _ (by omega)
    rw [List.length_cons, List.range_succ_eq_map]
    simp only [List.map_cons, List.map_map, Nat.add_zero, List.zip_cons_cons, Instr.fill]
    rw [if_neg (by simp [hv]; omega)]
    have e : (v.cells.zipIdx.foldl (fun cs (x : Value × Nat) => cs.setIfInBounds (m * s + x.2) x.1) cs).toList = cs.toList.take (m * s) ++ v.cells.toList ++ cs.toList.drop (m * s + s) := by
      rw [← Array.foldl_toList, Array.toList_zipIdx]
      have := foldl_set (m * s) v.cells.toList 0 cs (by simp [hv]; omega)
      simpa [hv] using this
    generalize hcs' : v.cells.zipIdx.foldl (fun cs (x : Value × Nat) => cs.setIfInBounds (m * s + x.2) x.1) cs = cs' at e
    have hsz : cs'.size = cs.size := by
      rw [← Array.length_toList, e]
      simp [hv]; omega
    have ih := fill_seqS s vs (m + 1) cs' (by rw [hsz, h]; congr 1; omega) (fun u hu => h1 u (List.mem_cons_of_mem _ hu))
    have e2 : (List.map ((fun x => m + x) ∘ Nat.succ) (List.range vs.length)) = (List.range vs.length).map (m + 1 + ·) := by
      apply List.map_congr_left
      intro x _
      show m + (x + 1) = m + 1 + x
      omega
    rw [e2, ih]
    congr 1
    apply congrArg List.toArray
    have hA : (cs.toList.take (m * s) ++ v.cells.toList).length = (m + 1) * s := by simp [hv, Nat.add_mul]; omega
    rw [e, ← hA, List.take_left]
    simp [flat]
theorem run_buildSliceS {t e : TypeId} {s : Nat} {parts : Array (Nat × Value)} {vs : List Value} {w : World} (ht : P.underlying t = some (.slice e)) (hs : szOf P e = some s) (hz : zeroFits P e s = true) (_ : 1 ≤ s)
    (hl : vs.length * s ≤ 16777216) (hparts : parts.toList = ((List.range vs.length).map (0 + ·)).zip vs) (h1 : ∀ v ∈ vs, v.cells.size = s) :
    (Instr.buildSlice t vs.length parts).run P w = .ok (.slice (some ⟨w.heap.size, 0, none⟩) vs.length vs.length) (w.alloc (.cells (flat vs).toArray e)) := by
  obtain ⟨i, z, hi, hiz, hzs⟩ := zeroFits_spec hz
  have hle : ¬ (16777216 < vs.length * s) := by omega
  have hf : ∀ Z : Array Value, Z.size = vs.length * s → Instr.fill (fun i => some (i * s, s)) Z parts.toList = some (flat vs).toArray := by
    intro Z hZ
    rw [hparts, fill_seqS s vs 0 Z (by rw [hZ, Nat.zero_add]) h1]
    simp
  unfold Instr.buildSlice
  by_cases h0 : vs.length * s = 0
  · simp only [Sem.run_bind, run_underlying ht, Result.andThen_ok, run_sizeOfB hs, h0]
    simp
    rw [hf _ (by simp [h0])]
    simp [newRow]
  · simp only [Sem.run_bind, run_underlying ht, Result.andThen_ok, run_sizeOfB hs]
    simp [hle, h0, zeroValue, typeInfo, hi, hiz]
    rw [hf _ (by simp)]
    simp [newRow]
theorem recsOf_rel {E : Env} {sh : List FK} : ∀ {i : Nat} {js : List Nat} {as : List (AV D.τ)} {ll : List Rec} {vs : List Value}, recsOf D sh i js as = some ll → AVsRel E as vs →
    js = (List.range vs.length).map (i + ·) ∧ vs.length = ll.length ∧ ∀ (k : Nat) r, ll[k]? = some r → ∃ cs : List Value, vs[k]? = some (.agg cs.toArray) ∧ RecRel E.σ sh 0 r cs
  | i, [], [], ll, vs, h, hv => by
    simp only [recsOf, Option.some.injEq] at h; subst h
    cases hv
    exact ⟨rfl, rfl, fun k r h => by simp at h⟩
  | i, [], _ :: _, ll, vs, h, hv => by simp [recsOf] at h
  | i, j :: js, [], ll, vs, h, hv => by simp [recsOf] at h
  | i, j :: js, x :: as, ll, vs, h, hv => by
    obtain ⟨v, us, rfl, h1, h2⟩ := hv
    rcases x with (p | ps) | as'
    · simp [recsOf] at h
    · simp only [recsOf] at h
      cases hb : Nat.beq i j <;> simp only [hb, cond_true, cond_false] at h
      · cases h
      have := Nat.eq_of_beq_eq_true hb
      subst this
      split at h
      · rename_i r0 hr0
        obtain ⟨ll', hll, rfl⟩ := Option.map_eq_some_iff.1 h
        obtain ⟨q1, q2, q3⟩ := recsOf_rel hll h2
        obtain ⟨cs, rfl, hp⟩ := h1
        refine ⟨?_, by simp [q2], fun k r hk => ?_⟩
        · rw [q1, List.length_cons, List.range_succ_eq_map]
          simp only [List.map_cons, List.map_map, Nat.add_zero, List.cons.injEq, true_and]
          apply List.map_congr_left
          intro x _
          show i + 1 + x = i + (x + 1)
          omega
        · cases k with
          | zero =>
            simp only [List.getElem?_cons_zero, Option.some.injEq] at hk
            subst hk
            exact ⟨cs, rfl, mkRec_sound [] hr0 hp⟩
          | succ k => exact q3 k r (by simpa using hk)
      · cases h
    · simp [recsOf] at h
theorem flat_lrs {E : Env} {sh : List FK} {ll : List Rec} {vs : List Value} (hl : vs.length = ll.length) (h : ∀ (k : Nat) r, ll[k]? = some r → ∃ cs : List Value, vs[k]? = some (.agg cs.toArray) ∧ RecRel E.σ sh 0 r cs) :
    (∀ v ∈ vs, v.cells.size = rsz sh) ∧ PartRel D E (.lrs sh ll) (flat vs) := by
  have h1 : ∀ v ∈ vs, v.cells.size = rsz sh := by
    intro v hv
    obtain ⟨k, hk⟩ := List.mem_iff_getElem?.1 hv
    have hlt : k < ll.length := by have := (List.getElem?_eq_some_iff.1 hk).1; omega
    obtain ⟨cs, e, hr⟩ := h k _ (List.getElem?_eq_getElem hlt)
    rw [hk] at e
    simp only [Option.some.injEq] at e
    subst e
    simpa [Value.cells] using hr.len
  refine ⟨h1, by rw [flat_len h1, hl], fun i r hi => ?_⟩
  obtain ⟨cs, e, hr⟩ := h i r hi
  rw [flat_get h1 i _ e]
  simpa [Value.cells] using hr
theorem recShape_spec {e : TypeId} {sh : List FK} (h : recShape P e = some sh) : szOf P e = some (rsz sh) ∧ 1 ≤ rsz sh := by
  unfold recShape at h
  cases hb : aggB P e <;> simp only [hb, cond_true, cond_false] at h
  · cases h
  split at h
  · rename_i sh' m n h1 h2
    cases hc : (Nat.beq n (rsz sh') && Nat.ble 1 n) <;> simp only [hc, cond_true, cond_false] at h
    · cases h
    simp only [Bool.and_eq_true] at hc
    simp only [Option.some.injEq] at h
    subst h
    have := Nat.eq_of_beq_eq_true hc.1
    subst this
    exact ⟨h2, Nat.le_of_ble_eq_true hc.2⟩
  · cases h
theorem sound_buildR (nid : Nat) (t : TypeId) (len : Nat) (parts : Array (Nat × Operand)) : Sound P D (oBuildR P D nid t len parts.toList) (fun ρ => do pure (.value (← Instr.buildSlice t len (parts.map fun (i, x) => (i, ρ x))))) := by
  intro S r l h hps M w0 a w hRA
  unfold oBuildR at h
  split at h
  · rename_i e ht
    split at h
    · rename_i sh hsh
      obtain ⟨σ, ν, hR, hA⟩ := hRA
      obtain ⟨as, l1, has, h⟩ := rdAs_run h
      have hvs := evalAs_rel hA has
      obtain ⟨l2, h⟩ := box_run h
      split at h
      · rename_i hun
        split at h
        · rename_i ll hll
          generalize hb : (Nat.beq ll.length len && (Nat.ble (len * rsz sh) 16777216 && zeroFits P e (rsz sh))) = bb at h
          cases bb <;> simp only [cond_true, cond_false, run_fail] at h
          simp only [run_ret] at h
          obtain ⟨rfl, _⟩ := h
          simp only [Bool.and_eq_true] at hb
          have h1 := Nat.eq_of_beq_eq_true hb.1
          have h2 := Nat.le_of_ble_eq_true hb.2.1
          obtain ⟨hsz, hpos⟩ := recShape_spec hsh
          obtain ⟨e2, e1, e3⟩ := recsOf_rel hll hvs
          generalize hvse : ((parts.toList.map (·.2)).map a.eval) = vs at hvs e1 e2 e3
          have hvl : vs.length = len := by rw [e1]; exact h1
          subst hvl
          obtain ⟨hcz, hlr⟩ := flat_lrs e1 e3
          have hparts : (parts.map fun (x : Nat × Operand) => (x.1, a.eval x.2)).toList = ((List.range vs.length).map (0 + ·)).zip vs := by
            rw [← e2, ← hvse, Array.toList_map]
            generalize parts.toList = L
            induction L with
            | nil => rfl
            | cons p L ih => simp [ih]
          have hrun := run_buildSliceS (P := P) (w := w) (parts := parts.map fun (x : Nat × Operand) => (x.1, a.eval x.2)) ht hsz hb.2.2 hpos h2 hparts hcz
          refine upTo_val hrun (lands_dynE (old := []) (row := none) (xs := flat vs) (n := vs.length) hR hA hun ?_ hlr rfl (World.grownBy_alloc _ _ _) (by simp) (fun g hg => .inl ?_))
          · refine ⟨flat_len hcz, .inr ⟨w.heap.size, vs.length, _, rfl, Nat.zero_le _, Go.heap_alloc_new w _, Nat.le_refl _, ?_, ?_, ?_⟩⟩
            · unfold maxLen
              have : vs.length ≤ vs.length * rsz sh := Nat.le_mul_of_pos_right _ hpos
              omega
            · show vs.length * rsz sh ≤ (flat vs).toArray.size
              rw [List.size_toArray, flat_len hcz]; exact Nat.le_refl _
            · exact List.take_of_length_le (by rw [List.toList_toArray, flat_len hcz]; exact Nat.le_refl _)
          · simp [Value.ownBlock] at hg; omega
        · simp at h
      · simp at h
    · exact sound_buildSlice2 nid t len parts S r _ h hps M w0 a w hRA
  · simp at h
theorem recRows_sound {α : Type} {M : Mem} {w0 : World} {σ : Loc} {ν : Nat → Value} {S : St D.τ} {w : World} (hR : RR D M w0 σ ν S w) {e : TypeId} {sh : List FK} (hpos : 1 ≤ rsz sh) {q : Part D.τ} {f : List Rec → Rd D.τ α} {r : α} {l : List Ref} {v : Value}
    (h : (recRows D e sh q f).run S = some (r, l)) (hp : PartRel D (S.env D M w0 σ ν) q [v]) :
    ∃ ll l', (f ll).run S = some (r, l') ∧ ∃ ao cap us, v = .slice ao ll.length cap ∧ PartRel D (S.env D M w0 σ ν) (.lrs sh ll) us ∧ (ao = none → us = [] ∧ cap = 0) ∧ ∀ ad, ao = some ad → ∀ j u, us[j]? = some u → w.cell? (ad.add j) = some u := by
  have hnil : PartRel D (S.env D M w0 σ ν) (.lrs sh []) [] := ⟨by simp, fun i r h => by simp at h⟩
  unfold recRows at h
  split at h
  · simp only [PartRel, List.cons.injEq, and_true] at hp
    exact ⟨[], l, h, none, 0, [], hp, hnil, fun _ => ⟨rfl, rfl⟩, fun ad h => by cases h⟩
  · rename_i sh' ll
    cases hsh : shEq sh sh' <;> simp only [hsh, cond_true, cond_false, run_fail] at h
    have := shEq_eq hsh
    subst this
    obtain ⟨v', e1, ao, cap, e2, h1, h2, h3, h4⟩ := hp
    simp only [List.cons.injEq, and_true] at e1
    subst e1
    cases ao with
    | none =>
      have hc := h3 rfl
      have hl : ll = [] := List.eq_nil_of_length_eq_zero (by omega)
      subst hl
      subst hc
      exact ⟨[], l, h, none, 0, [], e2, hnil, fun _ => ⟨rfl, rfl⟩, fun ad h => by cases h⟩
    | some ad =>
      have hus : ∀ (j : Nat) u, ((List.range (ll.length * rsz sh)).map (fun j => (w.cell? (ad.add j)).getD undef))[j]? = some u → j < ll.length * rsz sh ∧ u = (w.cell? (ad.add j)).getD undef := by
        intro j u hu
        rw [List.getElem?_map] at hu
        by_cases hj : j < ll.length * rsz sh
        · rw [List.getElem?_range hj] at hu
          simp only [Option.map_some, Option.some.injEq] at hu
          exact ⟨hj, hu.symm⟩
        · rw [List.getElem?_eq_none (by simp; omega)] at hu; cases hu
      have key : ∀ (i : Nat) r, ll[i]? = some r → ∃ vs : List Value, RecRel σ sh 0 r vs ∧ ∀ j v, vs[j]? = some v → w.cell? (ad.add (i * rsz sh + j)) = some v := by
        intro i r hi
        obtain ⟨g, o, vs, q1, q2, q3, q4⟩ := h4 i r hi
        simp only [Option.some.injEq] at q1
        subst q1
        refine ⟨vs, q3, fun j v hv => ?_⟩
        rw [Addr.add_lit, ← Nat.add_assoc]
        exact zm_now hR q2 rfl (q4 j v hv)
      refine ⟨ll, l, h, some ad, cap, (List.range (ll.length * rsz sh)).map (fun j => (w.cell? (ad.add j)).getD undef), e2, ⟨by simp, fun i r hi => ?_⟩, (fun h => by cases h), fun ad' e j u hu => ?_⟩
      · obtain ⟨vs, q1, q2⟩ := key i r hi
        have hvl := q1.len
        have hle := le_rows (s := rsz sh) (List.getElem?_eq_some_iff.1 hi).1
        have : (((List.range (ll.length * rsz sh)).map (fun j => (w.cell? (ad.add j)).getD undef)).drop (i * rsz sh)).take (rsz sh) = vs := by
          apply List.ext_getElem?
          intro j
          by_cases hj : j < rsz sh
          · rw [List.getElem?_take_of_lt hj, List.getElem?_drop, List.getElem?_map, List.getElem?_range (by omega)]
            obtain ⟨x, hx⟩ : ∃ x, vs[j]? = some x := ⟨_, List.getElem?_eq_getElem (by omega)⟩
            rw [hx, Option.map_some, q2 j x hx, Option.getD_some]
          · rw [List.getElem?_eq_none (by rw [List.length_take]; omega), List.getElem?_eq_none (by omega)]
        rw [this]
        exact q1
      · simp only [Option.some.injEq] at e
        subst e
        obtain ⟨hj, rfl⟩ := hus j u hu
        have hdm := Nat.div_add_mod j (rsz sh)
        have hq : j / rsz sh < ll.length := by rw [Nat.div_lt_iff_lt_mul (by omega)]; exact hj
        have hm := Nat.mod_lt j (show 0 < rsz sh by omega)
        obtain ⟨vs, q1, q2⟩ := key _ _ (List.getElem?_eq_getElem hq)
        obtain ⟨x, hx⟩ : ∃ x, vs[j % rsz sh]? = some x := ⟨_, List.getElem?_eq_getElem (by rw [q1.len]; exact hm)⟩
        have hc := q2 _ x hx
        rw [Nat.mul_comm, hdm] at hc
        rw [hc, Option.getD_some]
  · rename_i c
    obtain ⟨l1, h⟩ := box_run h
    split at h
    · rename_i e' sh' ll hbx
      cases hsh : (Nat.beq e e' && shEq sh sh') <;> simp only [hsh, cond_true, cond_false, run_fail] at h
      simp only [Bool.and_eq_true] at hsh
      have := shEq_eq hsh.2
      subst this
      have hb := hR.boxes c
      rw [hbx] at hb
      obtain ⟨n, xs, hown, hxs, _⟩ := hb
      have hown' : w.ownsL 0 e' (rsz sh) (ν c) n xs := hown
      have hv : v = ν c := (List.cons.inj hp.2.2).1
      have hn : n = ll.length := by
        have := hown'.1
        rw [hxs.1] at this
        exact (Nat.eq_of_mul_eq_mul_right (by omega) this).symm
      subst hn
      rcases hown'.2 with ⟨hνe, h0⟩ | ⟨g, cap, cur, hνe, _, hcur, hnc, hcm, hcs, htk⟩
      · have hl : ll = [] := List.eq_nil_of_length_eq_zero h0
        subst hl
        exact ⟨[], _, h, none, 0, [], by rw [hv, hνe]; rfl, hnil, fun _ => ⟨rfl, rfl⟩, fun ad h => by cases h⟩
      · refine ⟨ll, _, h, some ⟨g, 0, none⟩, cap, xs, by rw [hv, hνe], hxs, (fun h => by cases h), fun ad e j u hu => ?_⟩
        simp only [Option.some.injEq] at e
        subst e
        exact hown'.cells (g := g) (by rw [hνe]; rfl) j u hu
    · simp at h
  · simp at h
theorem append_runS {t e ty : TypeId} {s : Nat} {w : World} {v : Value} {n m : Nat} {xs us : List Value} {ao : Option Addr} {cap' : Nat} (ht : P.underlying t = some (.slice e)) (hs : szOf P e = some s) (hz : zeroFits P e s = true) (hpos : 1 ≤ s)
    (hown : w.ownsL 0 e s v n xs) (hul : us.length = m * s) (hone : ∀ u ∈ us, u.oneCell' = true) (hnil : ao = none → us = [] ∧ cap' = 0) (hnews : ∀ ad, ao = some ad → ∀ j u, us[j]? = some u → w.cell? (ad.add j) = some u) (h63 : n + m ≤ 9223372036854775807) (hb : (n + m) * bytesOfT P e ≤ 140737488355328) :
    ∃ v' w', (Builtin.append_ #[t, t] ty #[v, .slice ao m cap']).run P w = .ok v' w' ∧ w'.ownsL 0 e s v' (n + m) (xs ++ us) ∧ w.grownBy w' v.ownBlock ∧
      ∀ g, v'.ownBlock = some g → w.heap.size ≤ g ∨ v.ownBlock = some g := by
  obtain ⟨i, z, hi, hiz, hzs⟩ := zeroFits_spec hz
  have hsz := info_of hi hs
  have hby : bytesOfT P e = i.bytes := by simp [bytesOfT, hi]
  rw [hby] at hb
  have hm : n + m ≤ maxLen := by unfold maxLen; omega
  cases ao with
  | none =>
    obtain ⟨hl, hc⟩ := hnil rfl
    subst hl
    subst hc
    have hm0 : m = 0 := by
      rcases Nat.eq_zero_or_pos m with h | h
      · exact h
      · have : 0 < m * s := Nat.mul_pos h (by omega)
        simp at hul; omega
    subst hm0
    have hr := run_append_ownedL_none (P := P) w 0 t ty e i s ht hi v n xs hown
    exact ⟨v, w, hr, by simpa using hown, World.grownBy.refl _ _, fun g hg => .inr hg⟩
  | some a =>
    have hnews := hnews a rfl
    rcases hown.2 with ⟨rfl, hn0⟩ | ⟨g, cap, cur, rfl, _, hcur, hnc, hcm, hcs, htk⟩
    · have hx : xs = [] := List.eq_nil_of_length_eq_zero (by rw [hown.1, hn0, Nat.zero_mul])
      subst hn0
      subst hx
      obtain ⟨v', w', hr, ho, hg, _⟩ := run_append_ownL (P := P) w w.heap.size t ty e i z s i.bytes ht hi hiz hsz rfl hzs (by omega) _ 0 [] (World.ownsL_nil w w.heap.size e s) a m cap' _ hul hnews hone hm hb (Nat.le_refl _)
      exact ⟨v', w', hr, ownsL_base ho (Nat.zero_le _), hg, fun g hgo => .inl (ho.lt g hgo).1⟩
    · obtain ⟨v', w', hr, ho, hg, _⟩ := run_append_ownL (P := P) w 0 t ty e i z s i.bytes ht hi hiz hsz rfl hzs (by omega) _ n xs hown a m cap' _ hul hnews hone hm hb (Nat.zero_le _)
      refine ⟨v', w', hr, ho, hg, fun g' hgo => ?_⟩
      by_cases hroom : n + m ≤ cap
      · obtain ⟨w2, hr2, _⟩ := run_append_fitsL (P := P) w 0 t ty e i s ht hi hsz g n cap xs hown a m cap' _ hul hnews hone hroom
        rw [hr] at hr2
        simp only [Result.ok.injEq] at hr2
        rw [hr2.1] at hgo
        exact .inr (by simpa [Value.ownBlock] using hgo)
      · have holds : ∀ j u, xs[j]? = some u → w.cell? ((⟨g, 0, none⟩ : Addr).add j) = some u := hown.cells (g := g) rfl
        have hr2 := run_append_grow (P := P) w t ty e i z ht hi hiz ⟨g, 0, none⟩ n cap xs (by rw [hsz]; exact hown.1) holds a m cap' _ (by rw [hsz]; exact hul) hnews (by omega) (by omega) (growslice_fits (by omega) hb)
        rw [hr] at hr2
        simp only [Result.ok.injEq] at hr2
        rw [hr2.1] at hgo
        simp [Value.ownBlock] at hgo
        exact .inl (by omega)
theorem lrs_append {E : Env} {sh : List FK} {xl ll : List Rec} {xs us : List Value} (h1 : PartRel D E (.lrs sh xl) xs) (h2 : PartRel D E (.lrs sh ll) us) : PartRel D E (.lrs sh (xl ++ ll)) (xs ++ us) := by
  refine ⟨by rw [List.length_append, List.length_append, h1.1, h2.1, Nat.add_mul], fun i r hi => ?_⟩
  by_cases hx : i < xl.length
  · rw [List.getElem?_append_left hx] at hi
    have hle := le_rows (s := rsz sh) hx
    have hl1 : xs.length = xl.length * rsz sh := h1.1
    rw [List.drop_append_of_le_length (by omega), List.take_append_of_le_length (by rw [List.length_drop]; omega)]
    exact h1.2 i r hi
  · rw [List.getElem?_append_right (by omega)] at hi
    have hl1 : xs.length = xl.length * rsz sh := h1.1
    rw [show i * rsz sh = xs.length + (i - xl.length) * rsz sh from by rw [hl1, ← Nat.add_mul]; congr 1; omega, List.drop_length_add_append]
    exact h2.2 _ r hi
theorem sound_appendR (nid : Nat) (x y : Operand) (t u ty : TypeId) : Sound P D (oAppendR P D nid x y t u) (fun ρ => valOf (Builtin.append_ #[t, u] ty #[ρ x, ρ y])) := by
  intro S r l h hps M w0 a w hRA
  unfold oAppendR at h
  split at h
  · rename_i e ht
    split at h
    · rename_i sh hsh
      obtain ⟨hs, hpos⟩ := recShape_spec hsh
      obtain ⟨σ, ν, hR, hA⟩ := hRA
      cases hb : (Nat.beq t u && zeroFits P e (rsz sh)) <;> simp only [hb, cond_true, cond_false, run_fail] at h
      simp only [Bool.and_eq_true] at hb
      have htu := Nat.eq_of_beq_eq_true hb.1
      subst htu
      obtain ⟨av, l0, hav, h⟩ := rdA_run h
      have hx := evalA_rel hA hav
      split at h
      · rename_i p
        obtain ⟨bv, l1, hbv, h⟩ := rdA_run h
        have hy := evalA_rel hA hbv
        split at h
        · rename_i q
          obtain ⟨ll, l2, h, ao, cap, us, hye, hus, hnil, hnews⟩ := recRows_sound hR hpos h hy.2
          obtain ⟨l3, h⟩ := box_run h
          split at h
          · rename_i hun
            split at h
            · simp only [run_ret] at h
              obtain ⟨rfl, _⟩ := h
              have hxv : a.eval x = .slice none 0 0 := by have := hx.2; simpa [PartRel] using this
              have b2 : ll.length * bytesOfT P e ≤ 140737488355328 := hps _ (by simp)
              have b1 : ll.length ≤ 9223372036854775807 := hps _ (by simp)
              obtain ⟨v', w', hr, ho, hg, hgo⟩ := append_runS (P := P) (ty := ty) (w := w) (v := .slice none 0 0) (n := 0) (m := ll.length) (xs := []) (us := us) (cap' := cap) ht hs hb.2 hpos (World.ownsL_nil _ _ _ _) hus.1 (fun u hu => hus.oneCell u hu) hnil hnews (by omega) (by rw [Nat.zero_add]; exact b2)
              simp only [List.nil_append, Nat.zero_add] at ho
              refine upTo_val (v := v') (w' := w') (by rw [hxv, hye]; exact hr) (lands_dynE (old := []) (row := none) hR hA hun ho hus (ownsL_one ho) hg (by simp) (fun g h' => .inl ?_))
              rcases hgo g h' with h'' | h''
              · exact h''
              · simp [Value.ownBlock] at h''
            · rename_i b _ _ _
              obtain ⟨l4, h⟩ := box_run h
              have hbb := hR.boxes b
              split at h
              · rename_i e' sh' xl hbx
                generalize hbe : (Nat.beq e e' && shEq sh sh') = be at h
                cases be <;> simp only [cond_true, cond_false, run_fail] at h
                simp only [Bool.and_eq_true] at hbe
                have hee := Nat.eq_of_beq_eq_true hbe.1
                subst hee
                have := shEq_eq hbe.2
                subst this
                simp only [run_ret] at h
                obtain ⟨rfl, _⟩ := h
                have b2 : (xl.length + ll.length) * bytesOfT P e ≤ 140737488355328 := hps _ (by simp)
                have b1 : xl.length + ll.length ≤ 9223372036854775807 := hps _ (by simp)
                rw [hbx] at hbb
                obtain ⟨n, xs, hown, hxs, _⟩ := hbb
                have hown : w.ownsL 0 e (rsz sh) _ n xs := hown
                have hn : n = xl.length := by
                  have := hown.1
                  rw [hxs.1] at this
                  exact (Nat.eq_of_mul_eq_mul_right (by omega) this).symm
                subst hn
                have hxv : a.eval x = ν b := by
                  have h9 : [a.eval x] = [ν b] := hx.2.2.2
                  simpa using h9
                obtain ⟨v', w', hr, ho, hg, hgo⟩ := append_runS (P := P) (ty := ty) (w := w) (v := ν b) (m := ll.length) (us := us) (cap' := cap) ht hs hb.2 hpos hown hus.1 (fun u hu => hus.oneCell u hu) hnil hnews b1 b2
                have hblk : ∀ g, (ν b).ownBlock = some g → ∃ b' ∈ [b], Fp D (S.env D M w0 σ ν) b' (S.box b') g := fun g h' => ⟨b, by simp, by rw [hbx]; exact h'⟩
                refine upTo_val (v := v') (w' := w') (by rw [hxv, hye]; exact hr) (lands_dynE (old := [b]) (row := (ν b).ownBlock) hR hA hun ho (lrs_append hxs hus) (ownsL_one ho) hg hblk (fun g h' => ?_))
                rcases hgo g h' with h'' | h''
                · exact .inl h''
                · exact .inr (hblk g h'')
              · simp at h
            · simp at h
          · simp at h
        · simp at h
      · simp at h
    · exact sound_append2 nid x y t u ty S r _ h hps M w0 a w hRA
  · simp at h
theorem rs_sub {τ : Loc} {sh : List FK} {ll : List Rec} {ao : Option Addr} {n cap : Nat} {x y : Int} (h : RsRel τ sh ll (.slice ao n cap)) (h0 : 0 ≤ x) (h1 : x ≤ y) (h2 : y ≤ ll.length) :
    RsRel τ sh ((ll.take y.toNat).drop x.toNat) (sliced ao x.toNat y.toNat cap (rsz sh)) := by
  obtain ⟨ao', cap', e, g1, g2, g0, g3⟩ := h
  simp only [Value.slice.injEq] at e
  obtain ⟨rfl, rfl, rfl⟩ := e
  have hlen : ((ll.take y.toNat).drop x.toNat).length = y.toNat - x.toNat := by simp; omega
  refine ⟨if cap = x.toNat then ao else ao.map (·.add (x.toNat * rsz sh)), cap - x.toNat, ?_, by rw [hlen]; omega, by omega, ?_, ?_⟩
  · rw [hlen]; rfl
  · intro hn
    have : ao = none := by
      split at hn
      · exact hn
      · simpa using hn
    have := g0 this
    omega
  · intro i r hi
    have hil : i < y.toNat - x.toNat := by rw [← hlen]; exact (List.getElem?_eq_some_iff.1 hi).1
    rw [List.getElem?_drop, List.getElem?_take_of_lt (by omega)] at hi
    obtain ⟨g, o, vs, e1, e2, e3, e4⟩ := g3 (x.toNat + i) r hi
    subst e1
    refine ⟨g, o + x.toNat * rsz sh, vs, ?_, e2, e3, fun j v hv => ?_⟩
    · rw [if_neg (by omega)]
      simp [Addr.add_lit]
    · rw [← e4 j v hv, Nat.add_mul]
      congr 2
      omega
theorem sound_sliceR (Γ : Gam D) (nid : Nat) (dst : Option Tmp) (t : TypeId) (x : Operand) (lo hi : Option Operand) : Sound P D (oSliceR P D Γ nid dst t x lo hi) (fun ρ => do pure (.value (← Instr.sliceAt t (ρ x) (lo.map ρ) (hi.map ρ) none))) := by
  intro S r l h hps M w0 a w hRA
  unfold oSliceR at h
  obtain ⟨av, l0, hav, h⟩ := rdA_run h
  split at h
  · rename_i sh ll
    obtain ⟨σ, ν, hR, hA⟩ := hRA
    obtain ⟨hone, v, e1, hrs⟩ := evalA_rel hA hav
    simp only [List.cons.injEq, and_true] at e1
    subst e1
    split at h
    · rename_i e ht
      split at h
      · rename_i n hsz
        cases hb : Nat.beq n (rsz sh) <;> simp only [hb, cond_true, cond_false, run_fail] at h
        have := Nat.eq_of_beq_eq_true hb
        subst this
        have hrs' := hrs
        obtain ⟨ao, cap, hv, g1, g2, g0, g3⟩ := hrs'
        have fin : ∀ {p q : Int} {lx : List Ref}, (ok1 (.prs sh ((ll.take q.toNat).drop p.toNat)) [0 ≤ p, p ≤ q, q ≤ ll.length] : Rd D.τ (Res D.τ)).run S = some (r, lx) → Bnd 0 (lo.map a.eval) p → Bnd ll.length (hi.map a.eval) q →
            UpTo P (Lands M w0 S a r) ((do pure (Next.value (← Instr.sliceAt t (a.eval x) (lo.map a.eval) (hi.map a.eval) none)) : Sem Next).run P w) := by
          intro p q lx h b1 b2
          have hr := ok1_run h
          subst hr
          have h0 : 0 ≤ p := hps _ (by simp)
          have h1 : p ≤ q := hps _ (by simp)
          have h2 : q ≤ ll.length := hps _ (by simp)
          have hsub := rs_sub (by rw [← hv]; exact hrs) h0 h1 h2
          refine upTo_val (w' := w) (v := sliced ao p.toNat q.toNat cap (rsz sh)) ?_ (lands_pure hR hA ⟨rfl, _, rfl, hsub⟩)
          rw [hv]
          exact run_slice_bnd ht hsz b1 b2 h0 h1 (by omega)
        rcases bnd_run h with ⟨l2, e2, h2⟩ | ⟨y1, kd1, lt1, i1, l2, e2, hy1, h2⟩
        · rcases bnd_run h2 with ⟨l3, e3, h3⟩ | ⟨y2, kd2, lt2, i2, l3, e3, hy2, h3⟩
          · exact fin h3 (by rw [e2]; exact Bnd.none) (by rw [e3]; exact Bnd.none)
          · exact fin h3 (by rw [e2]; exact Bnd.none) (by rw [e3]; exact bnd_value hA hy2)
        · rcases bnd_run h2 with ⟨l3, e3, h3⟩ | ⟨y2, kd2, lt2, i2, l3, e3, hy2, h3⟩
          · exact fin h3 (by rw [e2]; exact bnd_value hA hy1) (by rw [e3]; exact Bnd.none)
          · exact fin h3 (by rw [e2]; exact bnd_value hA hy1) (by rw [e3]; exact bnd_value hA hy2)
      · simp at h
    · simp at h
  · rename_i b
    obtain ⟨l1, h⟩ := box_run h
    split at h
    · rename_i e sh ll hbx
      obtain ⟨σ, ν, hR, hA⟩ := hRA
      obtain ⟨hone, hal, h1c, hv⟩ := evalA_rel hA hav
      simp only [List.cons.injEq, and_true] at hv
      have hv' : a.eval x = ν b := hv
      have hbb := hR.boxes b
      rw [hbx] at hbb
      obtain ⟨n', xs, hown, hp, _⟩ := hbb
      have hown' : w.ownsL 0 e (rsz sh) (ν b) n' xs := hown
      split at h
      · rename_i e' y ht _ _
        split at h
        · rename_i n hsz
          cases hb : Nat.beq n (rsz sh) <;> simp only [hb, cond_true, cond_false, run_fail] at h
          have := Nat.eq_of_beq_eq_true hb
          subst this
          obtain ⟨ay, l2, hay, h⟩ := rdA_run h
          split at h
          · rename_i kd lt q
            obtain ⟨l3, h⟩ := box_run h
            split at h
            · rename_i hun
              simp only [run_ret] at h
              obtain ⟨rfl, _⟩ := h
              have h0 : 0 ≤ q := hps _ (by simp)
              have h1 : q ≤ ll.length := hps _ (by simp)
              have hxl := hown'.1
              have hll : ll.length * rsz sh = n' * rsz sh := by rw [← hxl]; exact hp.1.symm
              obtain ⟨v, hrun, hvo, hvb, hv1⟩ : ∃ v, (Instr.sliceAt t (ν b) none (some (a.eval y)) none).run P w = .ok v w ∧ w.ownsL 0 e (rsz sh) v q.toNat (xs.take (q.toNat * rsz sh)) ∧ v.ownBlock = (ν b).ownBlock ∧ v.oneCell' = true := by
                rcases hown'.2 with ⟨hn, hz⟩ | ⟨g, cap, cur, hνe, _, hcur, hnc, hcm, hcs, htk⟩
                · subst hz
                  have hx0 : xs = [] := List.eq_nil_of_length_eq_zero (by rw [hxl, Nat.zero_mul])
                  subst hx0
                  by_cases hq : q = 0
                  · subst hq
                    rw [hn]
                    refine ⟨.slice none 0 0, ?_, ⟨by simp, .inl ⟨rfl, rfl⟩⟩, rfl, rfl⟩
                    have := run_slice_bnd (P := P) (ao := none) (len := 0) (cap := 0) (lo := none) (w := w) ht hsz (Bnd.none (d := 0)) (bnd_value hA hay) (Int.le_refl _) (Int.le_refl _) (by simp)
                    simpa [sliced] using this
                  · exfalso
                    have hl0 : rsz sh = 0 := by
                      have : ll.length * rsz sh = 0 := by rw [hll, Nat.zero_mul]
                      rcases Nat.mul_eq_zero.1 this with h | h
                      · omega
                      · exact h
                    have h4 : 1 ≤ rsz sh := hps _ (by simp)
                    omega
                · have hn' : ll.length = n' := Nat.eq_of_mul_eq_mul_right (show 0 < rsz sh from hps (1 ≤ rsz sh) (by simp)) hll
                  rw [hνe]
                  refine ⟨.slice (some ⟨g, 0, none⟩) q.toNat cap, ?_, ⟨?_, .inr ⟨g, cap, cur, rfl, Nat.zero_le _, hcur, by omega, hcm, hcs, ?_⟩⟩, rfl, rfl⟩
                  · have := run_slice_bnd (P := P) (ao := some ⟨g, 0, none⟩) (len := n') (cap := cap) (lo := none) (w := w) ht hsz (Bnd.none (d := 0)) (bnd_value hA hay) (Int.le_refl _) h0 (by omega)
                    simpa [sliced, Addr.add] using this
                  · rw [List.length_take, hxl]
                    exact Nat.min_eq_left (Nat.mul_le_mul_right _ (by omega))
                  · rw [← htk, List.take_take, Nat.min_eq_left (Nat.mul_le_mul_right _ (by omega))]
              refine upTo_val (v := v) (w' := w) ?_ (lands_dynE (old := [b]) (row := none) (p := .lrs sh (ll.take q.toNat)) hR hA hun hvo ⟨?_, fun i rr hi => ?_⟩ hv1 (World.grownBy.refl _ _) (by simp) (fun g hg => .inr ⟨b, by simp, ?_⟩))
              · rw [hv']; exact hrun
              · rw [List.length_take, List.length_take, hp.1, Nat.min_eq_left (Nat.mul_le_mul_right _ (by omega)), Nat.min_eq_left (by omega)]
              · rw [List.getElem?_take] at hi
                split at hi
                · rename_i hiq
                  have := hp.2 i rr hi
                  have hle := le_rows (s := rsz sh) hiq
                  rw [List.drop_take, List.take_take, Nat.min_eq_left (by omega)]
                  exact this
                · cases hi
              · rw [hbx]; show (ν b).ownBlock = some g; rw [← hvb]; exact hg
            · simp at h
          · simp at h
        · simp at h
      · rename_i e' y ht _ _
        split at h
        · rename_i n hsz
          cases hb : (Nat.beq n (rsz sh) && Nat.ble 1 n) <;> simp only [hb, cond_true, cond_false, run_fail] at h
          simp only [Bool.and_eq_true] at hb
          have := Nat.eq_of_beq_eq_true hb.1
          subst this
          have hpos := Nat.le_of_ble_eq_true hb.2
          obtain ⟨ay, l2, hay, h⟩ := rdA_run h
          split at h
          · rename_i kd lt q
            have hr := ok1_run h
            subst hr
            have h0 : 0 ≤ q := hps _ (by simp)
            have h1 : q ≤ ll.length := hps _ (by simp)
            have h2 : 0 < ll.length := hps _ (by simp)
            have hn' : ll.length = n' := by
              have := hown'.1
              rw [hp.1] at this
              exact Nat.eq_of_mul_eq_mul_right (by omega) this
            rcases hown'.2 with ⟨hn, hz⟩ | ⟨g, cap, cur, hνe, _, hcur, hnc, hcm, hcs, htk⟩
            · omega
            have hrun := run_slice_bnd (P := P) (ao := some ⟨g, 0, none⟩) (len := n') (cap := cap) (hi := none) (w := w) ht hsz (bnd_value (d := 0) hA hay) (Bnd.none (d := n')) h0 (by omega) (by omega)
            have ho : ∃ o, (0 < ll.length - q.toNat → o = q.toNat * rsz sh) ∧ sliced (some ⟨g, 0, none⟩) q.toNat ((n' : Int).toNat) cap (rsz sh) = .slice (some ⟨g, o, none⟩) (ll.length - q.toNat) (cap - q.toNat) := by
              unfold sliced
              by_cases hc : cap = q.toNat
              · refine ⟨0, fun hlt => by omega, ?_⟩
                rw [if_pos hc, Int.toNat_natCast, hn']
              · refine ⟨q.toNat * rsz sh, fun _ => rfl, ?_⟩
                rw [if_neg hc, Int.toNat_natCast, hn']
                simp [Addr.add_lit]
            obtain ⟨o, ho1, ho2⟩ := ho
            refine upTo_val (w' := w) (v := .slice (some ⟨g, o, none⟩) (ll.length - q.toNat) (cap - q.toNat)) ?_ (lands_pure hR hA ⟨rfl, by show (S.box b).al; rw [hbx]; trivial, g, n', cap, cap - q.toNat, hνe, by omega, by omega, by omega, o, ho1, rfl⟩)
            rw [hv', hνe, ← ho2]
            exact hrun
          · simp at h
        · simp at h
      · simp at h
    · exact sound_slice2 Γ nid dst t x lo hi S r _ h hps M w0 a w hRA
  · exact sound_slice2 Γ nid dst t x lo hi S r _ h hps M w0 a w hRA
theorem run_ptr_nil {t e : TypeId} {ao : Option Addr} {w : World} (ht : P.underlying t = some (.pointer e)) : (Op.equal t (.pointer ao) (.pointer none)).run P w = .ok ao.isNone w := by
  unfold Op.equal Op.maxDepth Op.equalIn
  cases ao <;> simp [run_underlying ht]
theorem run_eq_ptr {op : BinOp} {t e : TypeId} {x y : Operand} {ao : Option Addr} {w : World} (ht : P.underlying t = some (.pointer e)) (hop : op = .eql ∨ op = .neq) :
    (do eqGuard op t x y (.pointer ao) (.pointer none); binOp op t (.pointer ao) (.pointer none) : Sem Value).run P w = .ok (.bool (bif op == .eql then ao.isNone else !ao.isNone)) w := by
  rcases hop with rfl | rfl
  · simp [eqGuard, binOp, run_ptr_nil ht]
  · simp [eqGuard, binOp, run_ptr_nil ht]
    rfl
theorem sound_bin2 (op : BinOp) (t : TypeId) (x y : Operand) : Sound P D (oBin2 P D op t x y) (fun ρ => valOf (do eqGuard op t x y (ρ x) (ρ y); binOp op t (ρ x) (ρ y))) := by
  intro S r l h hps M w0 a w hRA
  unfold oBin2 at h
  obtain ⟨av, bv, l0, hav, hbv, h⟩ := pair_run h
  split at h
  · obtain ⟨σ, ν, hR, hA⟩ := hRA
    obtain ⟨_, _, hv⟩ := evalA_rel hA hav
    obtain ⟨_, hu⟩ := evalA_rel hA hbv
    simp only [List.cons.injEq, and_true, PartRel] at hv hu
    split at h
    · rename_i ht _
      have hr := ok1_run h
      subst hr
      refine upTo_val (w' := w) ?_ (lands_pure hR hA rel_bool)
      rw [hv, hu]
      exact run_eq_ptr ht (.inl rfl)
    · rename_i ht _
      have hr := ok1_run h
      subst hr
      refine upTo_val (w' := w) ?_ (lands_pure hR hA rel_bool)
      rw [hv, hu]
      exact run_eq_ptr ht (.inr rfl)
    · simp at h
  · obtain ⟨σ, ν, hR, hA⟩ := hRA
    obtain ⟨_, hv⟩ := evalA_rel hA hav
    obtain ⟨_, hu⟩ := evalA_rel hA hbv
    simp only [List.cons.injEq, and_true, PartRel] at hv hu
    split at h
    · rename_i ht _
      have hr := ok1_run h
      subst hr
      refine upTo_val (w' := w) ?_ (lands_pure hR hA rel_bool)
      rw [hv, hu]
      exact run_eq_ptr ht (.inl rfl)
    · rename_i ht _
      have hr := ok1_run h
      subst hr
      refine upTo_val (w' := w) ?_ (lands_pure hR hA rel_bool)
      rw [hv, hu]
      exact run_eq_ptr ht (.inr rfl)
    · simp at h
  · rename_i sh ll
    obtain ⟨σ, ν, hR, hA⟩ := hRA
    obtain ⟨_, v, hv, hrs⟩ := evalA_rel hA hav
    obtain ⟨_, hu⟩ := evalA_rel hA hbv
    simp only [List.cons.injEq, and_true, PartRel] at hv hu
    obtain ⟨ao, cap, hvs, _, _, _, g3⟩ := hrs
    have hsome : 0 < ll.length → ∃ ad, ao = some ad := fun h0 => by
      obtain ⟨g, o, vs, e, _⟩ := g3 0 ll[0] (List.getElem?_eq_getElem h0)
      exact ⟨_, e⟩
    split at h
    · rename_i ht _
      have hr := ok1_run h
      subst hr
      obtain ⟨ad, rfl⟩ := hsome (hps (0 < ll.length) (by simp))
      refine upTo_val (w' := w) ?_ (lands_pure hR hA rel_bool)
      rw [hv, hu, hvs]
      exact run_eq_slice ht (.inl rfl)
    · rename_i ht _
      have hr := ok1_run h
      subst hr
      obtain ⟨ad, rfl⟩ := hsome (hps (0 < ll.length) (by simp))
      refine upTo_val (w' := w) ?_ (lands_pure hR hA rel_bool)
      rw [hv, hu, hvs]
      exact run_eq_slice ht (.inr rfl)
    · simp at h
  · exact sound_bin op t x y S r _ h hps M w0 a w hRA
theorem sound_min {ts : Array TypeId} {ty : TypeId} (x y : Operand) : Sound P D (oMin D x y) (fun ρ => valOf (Builtin.min_ ts ty #[ρ x, ρ y])) := fun _ _ _ h => (run_fail.1 h).elim
theorem sound_makeIface (t : TypeId) (x : Operand) : Sound P D (oMakeIface P D t x) (fun ρ => do pure (.value (← Instr.makeInterface t (ρ x)))) := fun _ _ _ h => (run_fail.1 h).elim
theorem sound_typeAssert (x : Operand) (xt t : TypeId) (ok : Bool) : Sound P D (oTypeAssert P D x t ok) (fun ρ => do pure (.value (← Instr.typeAssert (ρ x) xt t ok))) := fun _ _ _ h => (run_fail.1 h).elim
theorem sound_max {ts : Array TypeId} {ty : TypeId} (x y : Operand) : Sound P D (oMax D x y) (fun ρ => valOf (Builtin.max_ ts ty #[ρ x, ρ y])) := fun _ _ _ h => (run_fail.1 h).elim
theorem sound_min3 {ts : Array TypeId} {ty : TypeId} (x y z : Operand) : Sound P D (oMin3 D x y z) (fun ρ => valOf (Builtin.min_ ts ty #[ρ x, ρ y, ρ z])) := fun _ _ _ h => (run_fail.1 h).elim
theorem run_eqGuard_str (op : BinOp) (t : TypeId) (x y : Operand) (m n : ByteArray) (w : World) : (eqGuard op t x y (.string m) (.string n)).run P w = .ok () w := by
  unfold eqGuard
  cases op <;> simp
theorem run_str {op : BinOp} {t : TypeId} {x y : Operand} {s u : ByteArray} {w : World} (h1 : op ≠ .shl) (h2 : op ≠ .shr) :
    (do eqGuard op t x y (.string s) (.string u); binOp op t (.string s) (.string u) : Sem Value).run P w = (Op.stringOp op s u).run P w := by
  simp only [Sem.run_bind, run_eqGuard_str, Result.andThen_ok]
  cases op <;> first | rfl | exact absurd rfl h1 | exact absurd rfl h2
theorem run_map_nil {t kt vt : TypeId} {g : Nat} {w : World} (ht : P.underlying t = some (.map kt vt)) : (Op.equal t (.map (some g)) (.map none)).run P w = .ok false w := by
  unfold Op.equal Op.maxDepth Op.equalIn
  simp [run_underlying ht]
theorem run_eq_map {op : BinOp} {t kt vt : TypeId} {x y : Operand} {g : Nat} {w : World} (ht : P.underlying t = some (.map kt vt)) (hop : op = .eql ∨ op = .neq) :
    (do eqGuard op t x y (.map (some g)) (.map none); binOp op t (.map (some g)) (.map none) : Sem Value).run P w = .ok (.bool (bif op == .eql then false else true)) w := by
  rcases hop with rfl | rfl
  · simp [eqGuard, binOp, run_map_nil ht]
  · simp [eqGuard, binOp, run_map_nil ht]
theorem ba_eq {s t : ByteArray} : (s.toList == t.toList) = decide (s = t) := by
  rw [Bool.eq_iff_iff]
  simp only [beq_iff_eq, decide_eq_true_eq]
  refine ⟨fun h => ?_, fun h => by rw [h]⟩
  have : s.data.toList = t.data.toList := by rw [← ByteArray.toList_eq, ← ByteArray.toList_eq, h]
  exact ByteArray.ext (Array.toList_inj.1 this)
theorem sound_bin3 (op : BinOp) (t : TypeId) (x y : Operand) : Sound P D (oBin3 P D op t x y) (fun ρ => valOf (do eqGuard op t x y (ρ x) (ρ y); binOp op t (ρ x) (ρ y))) := by
  intro S r l h hps M w0 a w hRA
  unfold oBin3 at h
  obtain ⟨ax, ay, l1, hax, hay, h⟩ := pair_run h
  split at h
  · rename_i s u
    split at h
    · rename_i ht
      obtain ⟨σ, ν, hR, hA⟩ := hRA
      have hx1 : a.eval x = .string s := by simpa [PartRel] using (evalA_rel hA hax).2
      have hy1 : a.eval y = .string u := by simpa [PartRel] using (evalA_rel hA hay).2
      unfold strOp at h
      split at h
      case h_8 => simp at h
      all_goals
        have hr := ok1_run h
        subst hr
      · have hd : ((s.size + u.size : Nat) : Int) ≤ 9223372036854775807 := hps _ (by simp)
        refine upTo_val (w' := w) (v := .string (s ++ u)) ?_ (lands_pure hR hA ⟨rfl, rfl⟩)
        rw [hx1, hy1, run_str (fun h => by cases h) (fun h => by cases h)]
        simp only [Op.stringOp]
        rw [if_neg (by show ¬ _ > (9223372036854775807 : Int); omega)]
        rfl
      all_goals
        refine upTo_val (w' := w) (v := .bool _) ?_ (lands_pure hR hA ⟨rfl, rfl⟩)
        rw [hx1, hy1, run_str (fun h => by cases h) (fun h => by cases h)]
        simp only [Op.stringOp, ba_eq]
        try simp only [strLt, ByteArray.toList_eq]
        rfl
    · simp at h
  · obtain ⟨σ, ν, hR, hA⟩ := hRA
    rename_i b
    obtain ⟨_, hal, hx1⟩ := evalA_rel hA hax
    simp only [List.cons.injEq, and_true] at hx1
    have hy1 : a.eval y = .map none := by simpa [PartRel] using (evalA_rel hA hay).2
    split at h
    · rename_i kt vt ht _
      have hr := ok1_run h
      subst hr
      refine upTo_val (w' := w) (v := .bool false) ?_ (lands_pure hR hA ⟨rfl, rfl⟩)
      rw [hx1, hy1]
      exact run_eq_map ht (.inl rfl)
    · rename_i kt vt ht _
      have hr := ok1_run h
      subst hr
      refine upTo_val (w' := w) (v := .bool true) ?_ (lands_pure hR hA ⟨rfl, rfl⟩)
      rw [hx1, hy1]
      exact run_eq_map ht (.inr rfl)
    · simp at h
  · exact sound_bin2 op t x y S r _ h hps M w0 a w hRA
theorem sound_buildC (nid : Nat) (t : TypeId) (len : Nat) (parts : Array (Nat × Operand)) : Sound P D (oBuildC P D nid t len parts.toList) (fun ρ => do pure (.value (← Instr.buildSlice t len (parts.map fun (i, x) => (i, ρ x))))) := sound_buildR nid t len parts
theorem sound_indexAddrC (t : TypeId) (x y : Operand) : Sound P D (oIndexAddrC P D t x y) (fun ρ => do pure (.value (← Instr.indexAt t (ρ x) (ρ y)))) := sound_indexAddrR t x y
theorem sound_loadC (t : TypeId) (x : Operand) : Sound P D (oLoadC P D t x) (fun ρ => do pure (.value (← Instr.loadAt t (ρ x)))) := sound_loadR t x
theorem sound_makeFunc (fn : Fn) (first captured : Array Operand) : Sound P D (oMakeFunc D fn first.toList captured.toList) (fun ρ => do pure (.value (← Instr.makeFunc fn (first.map ρ) (captured.map ρ)))) := fun _ _ _ h => (run_fail.1 h).elim
theorem sound_clear (x : Operand) (t ty : TypeId) : Sound P D (oClear P D x t) (fun ρ => valOf (Builtin.clear_ #[t] ty #[ρ x])) := fun _ _ _ h => (run_fail.1 h).elim
end
end Go.Abs
namespace Go.Abs
open Go.RowKit
section
variable {P : Program} {D : Dom}
theorem assoc_mem {α : Type} : ∀ {l : List (Nat × α)} {t : Nat} {x : α}, assoc l t = some x → (t, x) ∈ l
  | [], t, x, h => by cases h
  | (k, y) :: r, t, x, h => by
    simp only [assoc] at h
    cases hb : Nat.beq t k <;> simp only [hb, cond_true, cond_false] at h
    · exact List.mem_cons_of_mem _ (assoc_mem h)
    · have := Nat.eq_of_beq_eq_true hb
      subst this
      simp only [Option.some.injEq] at h
      subst h
      exact List.mem_cons_self ..
def keyOf (ρ : List (Nat × Nat)) (b : Nat) : Nat := (assoc ρ b).getD 0
theorem isKey_spec {ρ : List (Nat × Nat)} {b c : Nat} (h : isKey ρ b c = true) : assoc ρ b = some c := by
  unfold isKey at h
  split at h
  · rename_i d hd
    rw [hd, Nat.eq_of_beq_eq_true h]
  · cases h
structure Ren (ρ : List (Nat × Nat)) (E F : Env) : Prop where
  al : ∀ b c, assoc ρ b = some c → F.al b
  σ : ∀ b c, assoc ρ b = some c → F.σ b = E.σ c
  ν : ∀ b c, assoc ρ b = some c → F.ν b = E.ν c
  φ : ∀ b c, assoc ρ b = some c → F.σ.φ b = E.σ.φ c
  nl : ∀ b, assoc ρ b = some (nilB + b) → F.ν b = .slice none 0 0
  w0 : F.w0 = E.w0
  M : F.M = E.M
  z : F.σ.zw = E.σ.zw ∧ F.σ.zm = E.σ.zm
def AllQ (ps : List Prop) : Prop := ∀ p ∈ ps, p
theorem Ren.base {ρ : List (Nat × Nat)} {E F : Env} (hr : Ren ρ E F) {M : Nat → Prop} {W : World} (h : Base E M W) : Base F M W := by
  rcases h with ⟨h1, h2⟩ | ⟨h1, h2⟩
  · exact .inl ⟨by rw [hr.M]; exact h1, by rw [hr.w0]; exact h2⟩
  · exact .inr ⟨by rw [hr.z.2]; exact h1, by rw [hr.z.1]; exact h2⟩
theorem Ren.le {ρ : List (Nat × Nat)} {E F : Env} (hr : Ren ρ E F) : E.σ.le F.σ := by
  rw [Loc.le, hr.z.1, hr.z.2]
  exact fun g hg => ⟨hg, rfl⟩
theorem keysL_sound {ρ : List (Nat × Nat)} {E F : Env} (hr : Ren ρ E F) : ∀ {bs cs : List Nat}, keysL ρ bs cs = true →
    (∀ b ∈ bs, F.al b) ∧ (bs.map fun b => Value.pointer (some ⟨F.σ.f b, 0, none⟩)) = cs.map fun b => Value.pointer (some ⟨E.σ.f b, 0, none⟩)
  | [], [], _ => ⟨(fun b h => by cases h), rfl⟩
  | [], _ :: _, h => by cases h
  | _ :: _, [], h => by cases h
  | b :: bs, c :: cs, h => by
    simp only [keysL, Bool.and_eq_true] at h
    have hk := isKey_spec h.1
    obtain ⟨q1, q2⟩ := keysL_sound hr h.2
    refine ⟨fun x hx => ?_, ?_⟩
    · rcases List.mem_cons.1 hx with rfl | hx
      · exact hr.al _ _ hk
      · exact q1 x hx
    · simp only [List.map_cons, q2]
      rw [show F.σ.f b = E.σ.f c from hr.σ _ _ hk]
theorem fitC_sound {ρ : List (Nat × Nat)} {E F : Env} (hr : Ren ρ E F) : ∀ {cs ds : List C1} {xs : List Prop} {vs : List Value}, fitC ρ cs ds = some xs → AllQ xs → C1sRel E ds vs → C1sRel F cs vs
  | [], [], _, _, _, _, h => h
  | .s x :: cs, .s y :: ds, xs, vs, e, hx, ⟨v, us, e1, h1, h2⟩ => by
    obtain ⟨r, hr', rfl⟩ := Option.map_eq_some_iff.1 e
    have : y = x := hx _ (List.mem_cons_self ..)
    subst this
    exact ⟨v, us, e1, h1, fitC_sound hr hr' (fun p hp => hx p (List.mem_cons_of_mem _ hp)) h2⟩
  | .i k m :: cs, .i k' n :: ds, xs, vs, e, hx, ⟨v, us, e1, h1, h2⟩ => by
    simp only [fitC] at e
    split at e
    · rename_i hk
      subst hk
      obtain ⟨r, hr', rfl⟩ := Option.map_eq_some_iff.1 e
      have : n = m := hx _ (List.mem_cons_self ..)
      subst this
      exact ⟨v, us, e1, h1, fitC_sound hr hr' (fun p hp => hx p (List.mem_cons_of_mem _ hp)) h2⟩
    · cases e
  | .o b :: cs, .o c :: ds, xs, vs, e, hx, ⟨v, us, e1, h1, h2⟩ => by
    simp only [fitC] at e
    cases hk : isKey ρ b c <;> simp only [hk, cond_true, cond_false] at e
    · cases e
    have hk := isKey_spec hk
    exact ⟨v, us, e1, ⟨hr.al _ _ hk, by rw [hr.ν _ _ hk]; exact h1.2.1, by rw [hr.ν _ _ hk]; exact h1.2.2⟩, fitC_sound hr e hx h2⟩
  | [], _ :: _, _, _, e, _, _ => by cases e
  | _ :: _, [], _, _, e, _, _ => by simp [fitC] at e
  | .s _ :: _, .i _ _ :: _, _, _, e, _, _ => by cases e
  | .s _ :: _, .o _ :: _, _, _, e, _, _ => by cases e
  | .i _ _ :: _, .s _ :: _, _, _, e, _, _ => by cases e
  | .i _ _ :: _, .o _ :: _, _, _, e, _, _ => by cases e
  | .o _ :: _, .s _ :: _, _, _, e, _, _ => by cases e
  | .o _ :: _, .i _ _ :: _, _, _, e, _, _ => by cases e
theorem fitP_sound {ρ : List (Nat × Nat)} {E F : Env} (hr : Ren ρ E F) {p q : Part D.τ} {xs : List Prop} {cs : List Value} (h : fitP D ρ p q = some xs) (hx : AllQ xs) (hq : PartRel D E q cs) : PartRel D F p cs := by
  unfold fitP at h
  split at h
  · split at h
    · split at h
      · rename_i hk hn; subst hk; subst hn; exact hq
      · cases h
    · cases h
  · split at h
    · rename_i hk
      simp only [Option.some.injEq] at h; subst h; subst hk
      have := hx _ (List.mem_cons_self ..)
      subst this; exact hq
    · cases h
  · split at h
    · rename_i hk
      simp only [Option.some.injEq] at h; subst h; subst hk
      have := hx _ (List.mem_cons_self ..)
      subst this; exact hq
    · cases h
  · rename_i b c
    cases hb : (b == c) <;> simp only [hb, cond_true, cond_false] at h
    · cases h
    · have := eq_of_beq hb
      subst this; exact hq
  · simp only [Option.some.injEq] at h; subst h
    have := hx _ (List.mem_cons_self ..)
    subst this; exact hq
  · simp only [Option.some.injEq] at h; subst h
    have := hx _ (List.mem_cons_self ..)
    subst this; exact hq
  · exact hq
  · rename_i b o c o'
    cases hb : (isKey ρ b c && Nat.beq o o') <;> simp only [hb, cond_true, cond_false] at h
    · cases h
    · simp only [Bool.and_eq_true] at hb
      have hk := isKey_spec hb.1
      have := Nat.eq_of_beq_eq_true hb.2
      subst this
      exact ⟨hr.al b c hk, by rw [hr.σ b c hk]; exact hq.2⟩
  · rename_i b i c i'
    cases hb : isKey ρ b c <;> simp only [hb, cond_true, cond_false] at h
    · cases h
    · simp only [Option.some.injEq] at h; subst h
      have hk := isKey_spec hb
      have := hx _ (List.mem_cons_self ..)
      subst this
      exact ⟨hr.al b c hk, by rw [hr.ν b c hk]; exact hq.2⟩
  · rename_i b c
    cases hb : isKey ρ b c <;> simp only [hb, cond_true, cond_false] at h
    · cases h
    · have hk := isKey_spec hb
      exact ⟨hr.al b c hk, by rw [hr.ν b c hk]; exact hq.2⟩
  · rename_i b
    cases hb : isKey ρ b (nilB + b) <;> simp only [hb, cond_true, cond_false] at h
    · cases h
    · have hk := isKey_spec hb
      have hq' : cs = [Value.slice none 0 0] := hq
      exact ⟨hr.al b _ hk, by rw [hr.nl b hk]; rfl, by rw [hr.nl b hk]; exact hq'⟩
  · rename_i b o n cap c o' n' cap'
    cases hb : (isKey ρ b c && Nat.beq o o') <;> simp only [hb, cond_true, cond_false] at h
    · cases h
    · simp only [Option.some.injEq] at h; subst h
      simp only [Bool.and_eq_true] at hb
      have hk := isKey_spec hb.1
      have h1 := Nat.eq_of_beq_eq_true hb.2
      have h2 := hx _ (List.mem_cons_self ..)
      have h3 := hx (cap' = cap) (by simp)
      subst h1; subst h2; subst h3
      exact ⟨hr.al b c hk, by rw [hr.σ b c hk]; exact hq.2⟩
  · split at h
    · rename_i hk
      simp only [Option.some.injEq] at h; subst h; subst hk
      have := hx _ (List.mem_cons_self ..)
      subst this
      obtain ⟨v, e, M, W, hB, hs⟩ := hq
      exact ⟨v, e, M, W, hr.base hB, hs⟩
    · cases h
  · rename_i k l i k' l' i'
    split at h
    · rename_i hk
      simp only [Option.some.injEq] at h; subst h; subst hk
      have h1 := hx _ (List.mem_cons_self ..)
      have h2 := hx (i' = i) (by simp)
      subst h1; subst h2
      obtain ⟨ad, e, M, W, hB, q1, q2, q3⟩ := hq
      exact ⟨ad, e, M, W, hr.base hB, q1, q2, q3⟩
    · cases h
  · split at h
    · rename_i hk
      simp only [Option.some.injEq] at h; subst h; subst hk
      have := hx _ (List.mem_cons_self ..)
      subst this
      simp only [PartRel] at hq ⊢
      rw [hr.w0, hr.M]; exact hq
    · cases h
  · rename_i k l i k' l' i'
    split at h
    · rename_i hk
      simp only [Option.some.injEq] at h; subst h; subst hk
      have h1 := hx _ (List.mem_cons_self ..)
      have h2 := hx (i' = i) (by simp)
      subst h1; subst h2
      simp only [PartRel] at hq ⊢
      rw [hr.w0, hr.M]; exact hq
    · cases h
  · simp only [Option.some.injEq] at h; subst h
    exact hx _ (List.mem_cons_self ..) _ hq
  · split at h
    · rename_i hk
      simp only [Option.some.injEq] at h; subst h; subst hk
      have := hx _ (List.mem_cons_self ..)
      subst this; exact hq
    · cases h
  · rename_i s l s' l'
    cases hb : Nat.beq s s' <;> simp only [hb, cond_true, cond_false] at h
    · cases h
    · simp only [Option.some.injEq] at h; subst h
      have h1 := Nat.eq_of_beq_eq_true hb
      have h2 := hx _ (List.mem_cons_self ..)
      subst h1; subst h2; exact hq
  · split at h
    · rename_i hk
      simp only [Option.some.injEq] at h; subst h; subst hk
      have := hx _ (List.mem_cons_self ..)
      subst this
      obtain ⟨v, e, hs⟩ := hq
      exact ⟨v, e, by rw [hr.z.1, hr.z.2]; exact hs⟩
    · cases h
  · split at h
    · rename_i hk
      simp only [Option.some.injEq] at h; subst h; subst hk
      have := hx _ (List.mem_cons_self ..)
      subst this
      obtain ⟨v, e, hs⟩ := hq
      exact ⟨v, e, _, _, hr.base (.inr ⟨rfl, rfl⟩), hs⟩
    · cases h
  · simp only [Option.some.injEq] at h; subst h
    have := hx _ (List.mem_cons_self ..)
    subst this
    have hq' : cs = [Value.slice none 0 0] := hq
    exact ⟨_, hq', F.M, F.w0, .inl ⟨rfl, rfl⟩, none, 0, rfl, Nat.le_refl _, Nat.zero_le _, fun _ => rfl, (fun i hi => by cases hi)⟩
  · rename_i sh ll sh' ll'
    cases hb : shEq sh sh' <;> simp only [hb, cond_true, cond_false] at h
    · cases h
    · simp only [Option.some.injEq] at h; subst h
      have h1 := shEq_eq hb
      have h2 := hx _ (List.mem_cons_self ..)
      subst h1; subst h2
      refine ⟨hq.1, fun i r hr' => (hq.2 i r hr').mono ?_⟩
      rw [Loc.le, hr.z.1, hr.z.2]
      exact fun g hg => ⟨hg, rfl⟩
  · rename_i sh ll sh' ll'
    cases hb : shEq sh sh' <;> simp only [hb, cond_true, cond_false] at h
    · cases h
    · simp only [Option.some.injEq] at h; subst h
      have h1 := shEq_eq hb
      have h2 := hx _ (List.mem_cons_self ..)
      subst h1; subst h2
      obtain ⟨v, e, hs⟩ := hq
      refine ⟨v, e, hs.mono ?_⟩
      rw [Loc.le, hr.z.1, hr.z.2]
      exact fun g hg => ⟨hg, rfl⟩
  · simp only [Option.some.injEq] at h; subst h
    have := hx _ (List.mem_cons_self ..)
    subst this
    have hq' : cs = [Value.slice none 0 0] := hq
    exact ⟨_, hq', none, 0, rfl, Nat.le_refl _, Nat.zero_le _, fun _ => rfl, (fun i r hr' => by cases hr')⟩
  · rename_i t b o t' c o'
    cases hb : (isKey ρ b c && (Nat.beq t t' && Nat.beq o o')) <;> simp only [hb, cond_true, cond_false] at h
    · cases h
    · simp only [Bool.and_eq_true] at hb
      have hk := isKey_spec hb.1
      have h1 := Nat.eq_of_beq_eq_true hb.2.1
      have h2 := Nat.eq_of_beq_eq_true hb.2.2
      subst h1; subst h2
      exact ⟨hr.al b c hk, by rw [hr.σ b c hk]; exact hq.2⟩
  · rename_i t sh r t' sh' r'
    cases hb : (Nat.beq t t' && shEq sh sh') <;> simp only [hb, cond_true, cond_false] at h
    · cases h
    · simp only [Option.some.injEq] at h; subst h
      simp only [Bool.and_eq_true] at hb
      have h1 := Nat.eq_of_beq_eq_true hb.1
      have h2 := shEq_eq hb.2
      have h3 := hx _ (List.mem_cons_self ..)
      subst h1; subst h2; subst h3
      obtain ⟨vs, e, hs⟩ := hq
      exact ⟨vs, e, hs.mono hr.le⟩
  · exact hq
  · exact hq
  · rename_i b c
    cases hb : isKey ρ b c <;> simp only [hb, cond_true, cond_false] at h
    · cases h
    · have hk := isKey_spec hb
      exact ⟨hr.al b c hk, by rw [hr.σ b c hk]; exact hq.2⟩
  · rename_i f bs f' cs'
    cases hb : (Nat.beq f f' && keysL ρ bs cs') <;> simp only [hb, cond_true, cond_false] at h
    · cases h
    · simp only [Bool.and_eq_true] at hb
      have h1 := Nat.eq_of_beq_eq_true hb.1
      subst h1
      obtain ⟨q1, q2⟩ := keysL_sound hr hb.2
      refine ⟨q1, ?_⟩
      rw [hq.2, cloV, cloV, q2]
  · rename_i sh n l sh' n' l'
    cases hb : (shEq sh sh' && Nat.beq n n') <;> simp only [hb, cond_true, cond_false] at h
    · cases h
    · simp only [Option.some.injEq] at h; subst h
      simp only [Bool.and_eq_true] at hb
      have h1 := shEq_eq hb.1
      have h2 := Nat.eq_of_beq_eq_true hb.2
      have h3 := hx _ (List.mem_cons_self ..)
      subst h1; subst h2; subst h3
      exact ⟨hq.1, hq.2.1, fun i v hv => (hq.2.2 i v hv).mono hr.le⟩
  · split at h
    · rename_i hk
      simp only [Option.some.injEq] at h; subst h; subst hk
      have := hx _ (List.mem_cons_self ..)
      subst this
      refine ⟨hq.1, fun i u hu => ?_⟩
      obtain ⟨M, W, hB, hs⟩ := hq.2 i u hu
      exact ⟨M, W, hr.base hB, hs⟩
    · cases h
  · exact hq
  · rename_i b o n i c o' n' i'
    cases hb : (isKey ρ b c && (Nat.beq o o' && Nat.beq n n')) <;> simp only [hb, cond_true, cond_false] at h
    · cases h
    · simp only [Option.some.injEq] at h; subst h
      simp only [Bool.and_eq_true] at hb
      have hk := isKey_spec hb.1
      have h1 := Nat.eq_of_beq_eq_true hb.2.1
      have h2 := Nat.eq_of_beq_eq_true hb.2.2
      have h3 := hx _ (List.mem_cons_self ..)
      subst h1; subst h2; subst h3
      exact ⟨hr.al b c hk, by rw [hr.σ b c hk]; exact hq.2⟩
  · rename_i b o m lo n cap c o' m' lo' n' cap'
    cases hb : (isKey ρ b c && (Nat.beq o o' && Nat.beq m m')) <;> simp only [hb, cond_true, cond_false] at h
    · cases h
    · simp only [Option.some.injEq] at h; subst h
      simp only [Bool.and_eq_true] at hb
      have hk := isKey_spec hb.1
      have h1 := Nat.eq_of_beq_eq_true hb.2.1
      have h2 := Nat.eq_of_beq_eq_true hb.2.2
      have h3 := hx _ (List.mem_cons_self ..)
      have h4 := hx (n' = n) (by simp)
      have h5 := hx (cap' = cap) (by simp)
      subst h1; subst h2; subst h3; subst h4; subst h5
      exact ⟨hr.al b c hk, by rw [hr.σ b c hk]; exact hq.2⟩
  · exact fitC_sound hr h hx hq
  · cases h
theorem AllQ.append {xs ys : List Prop} (h : AllQ (xs ++ ys)) : AllQ xs ∧ AllQ ys :=
  ⟨fun p hp => h p (List.mem_append_left _ hp), fun p hp => h p (List.mem_append_right _ hp)⟩
theorem fitW_sound {E F : Env} {p : Part D.τ} {qs : List (Part D.τ)} {xs : List Prop} {cs : List Value} (h : fitW D p qs = some xs) (hx : AllQ xs) (hq : PartsRel D E qs cs) : PartsRel D F [p] cs := by
  unfold fitW at h
  split at h
  · split at h
    · rename_i l' hl
      simp only [Option.some.injEq] at h; subst h
      have := hx _ (List.mem_cons_self ..)
      subst this
      have := allInts_rel hl hq
      exact ⟨cs, [], by simp, this, rfl⟩
    · simp only [Option.some.injEq] at h; subst h
      exact hx _ (List.mem_cons_self ..) E F cs hq
  · simp only [Option.some.injEq] at h; subst h
    exact hx _ (List.mem_cons_self ..) E F cs hq
theorem fitPs_sound {ρ : List (Nat × Nat)} {E F : Env} (hr : Ren ρ E F) : ∀ {ps qs : List (Part D.τ)} {xs : List Prop} {cs : List Value}, fitPs D ρ ps qs = some xs → AllQ xs → PartsRel D E qs cs → PartsRel D F ps cs
  | [], [], _, _, _, _, hq => hq
  | [], _ :: _, _, _, h, _, _ => by cases h
  | p :: ps, qs, xs, cs, h, hx, hq => by
    unfold fitPs at h
    split at h
    · exact absurd ‹p :: ps = []› (by simp)
    · rename_i k n l ps' he
      simp only [List.cons.injEq] at he
      obtain ⟨rfl, rfl⟩ := he
      split at h
      · rename_i m r hd
        split at h
        · rename_i l' hl'
          split at h
          · rename_i ys hys
            simp only [Option.some.injEq] at h; subst h
            obtain ⟨c1, c2, rfl, hl1, q1, q2⟩ := dropP_sound hd hq
            have h1 := hx _ (List.mem_cons_self ..)
            subst h1
            have hc := allInts_rel hl' q1
            exact ⟨c1, c2, rfl, ⟨by rw [← hl1, hc]; simp, hc⟩, fitPs_sound hr hys (fun p hp => hx p (List.mem_cons_of_mem _ hp)) q2⟩
          · cases h
        · cases h
      · cases h
    case h_4 => exact absurd ‹p :: ps = []› (by simp)
    rename_i p' ps' _ he
    simp only [List.cons.injEq] at he
    obtain ⟨rfl, rfl⟩ := he
    split at h
    · rename_i q hw
      simp only [Bool.and_eq_true, List.isEmpty_iff] at hw
      obtain ⟨_, rfl⟩ := hw
      split at h
      · rename_i ys hys
        simp only [Option.some.injEq] at h; subst h
        obtain ⟨c1, c2, rfl, q1, q2⟩ := hq
        exact ⟨c1, c2, rfl, fitP_sound hr hys hx q1, q2⟩
      · exact fitW_sound h hx hq
    · rename_i hw _
      simp only [Bool.and_eq_true, List.isEmpty_iff] at hw
      obtain ⟨_, rfl⟩ := hw
      exact fitW_sound h hx hq
    · rename_i q qs'
      split at h
      · rename_i x1 h1
        split at h
        · rename_i x2 h2
          simp only [Option.some.injEq] at h
          subst h
          obtain ⟨c1, c2, rfl, q1, q2⟩ := hq
          exact ⟨c1, c2, rfl, fitP_sound hr h1 hx.append.1 q1, fitPs_sound hr h2 hx.append.2 q2⟩
        · cases h
      · cases h
    · cases h
theorem fit0_sound {ρ : List (Nat × Nat)} {E F : Env} (hr : Ren ρ E F) {a b : A0 D.τ} {xs : List Prop} {v : Value} (h : fit0 D ρ a b = some xs) (hx : AllQ xs) (hb : A0Rel D E b v) : A0Rel D F a v := by
  unfold fit0 at h
  split at h
  · exact ⟨hb.1, fitP_sound hr h hx hb.2⟩
  · obtain ⟨cs, e, hp⟩ := hb
    exact ⟨cs, e, fitPs_sound hr h hx hp⟩
  · cases h
theorem fit0s_sound {ρ : List (Nat × Nat)} {E F : Env} (hr : Ren ρ E F) : ∀ {as bs : List (A0 D.τ)} {xs : List Prop} {vs : List Value}, fit0s D ρ as bs = some xs → AllQ xs → A0sRel D E bs vs → A0sRel D F as vs
  | [], [], _, _, _, _, hb => hb
  | [], _ :: _, _, _, h, _, _ => by cases h
  | _ :: _, [], _, _, h, _, _ => by cases h
  | a :: as, b :: bs, xs, vs, h, hx, ⟨v, us, e, h1, h2⟩ => by
    simp only [fit0s] at h
    split at h
    · rename_i x1 q1
      split at h
      · rename_i x2 q2
        simp only [Option.some.injEq] at h; subst h
        exact ⟨v, us, e, fit0_sound hr q1 hx.append.1 h1, fit0s_sound hr q2 hx.append.2 h2⟩
      · cases h
    · cases h
theorem fitA_sound {ρ : List (Nat × Nat)} {E F : Env} (hr : Ren ρ E F) {a b : AV D.τ} {xs : List Prop} {v : Value} (h : fitA D ρ a b = some xs) (hx : AllQ xs) (hb : AVRel D E b v) : AVRel D F a v := by
  unfold fitA at h
  split at h
  · exact fit0_sound hr h hx hb
  · obtain ⟨vs, e, hv⟩ := hb
    exact ⟨vs, e, fit0s_sound hr h hx hv⟩
  · cases h
theorem fitB_sound {ρ : List (Nat × Nat)} {E F : Env} (hr : Ren ρ E F) {w : World} {b c : Nat} (hbc : assoc ρ b = some c) {s t : BoxSt D.τ} {xs : List Prop} (h : fitB D ρ s t = some xs) (hx : AllQ xs) (hb : BoxRel D E w c t) :
    s.al ∧ BoxRel D F w b s ∧ ∀ g, Fp D F b s g → Fp D E c t g := by
  have hσ := hr.σ b c hbc
  have hν := hr.ν b c hbc
  have hφ := hr.φ b c hbc
  unfold fitB at h
  split at h
  · exact ⟨trivial, trivial, fun g hg => by cases hg⟩
  · rename_i ty ps ty' qs
    cases ht : Nat.beq ty ty' <;> simp only [ht, cond_true, cond_false] at h
    · cases h
    have := Nat.eq_of_beq_eq_true ht
    subst this
    obtain ⟨cs, h1, h2⟩ := hb
    exact ⟨trivial, ⟨cs, by rw [hσ]; exact h1, fitPs_sound hr h hx h2⟩, fun g hg => by simp only [Fp, blk, hσ] at hg ⊢; exact hg⟩
  · rename_i e p e' q
    cases ht : (Nat.beq e e' && Nat.beq (esz D p) (esz D q)) <;> simp only [ht, cond_true, cond_false] at h
    · cases h
    simp only [Bool.and_eq_true] at ht
    have := Nat.eq_of_beq_eq_true ht.1
    subst this
    have he := Nat.eq_of_beq_eq_true ht.2
    obtain ⟨n, cs, h1, h2, h3⟩ := hb
    obtain ⟨c1, c2, e1, q1, q2⟩ := fitPs_sound hr (cs := cs) h hx ⟨cs, [], by simp, h2, rfl⟩
    cases q2
    rw [List.append_nil] at e1
    subst e1
    exact ⟨trivial, ⟨n, cs, by rw [hν, he]; exact h1, q1, by rw [hν]; exact h3⟩, fun g hg => by simp only [Fp, blk, hν] at hg ⊢; exact hg⟩
  · rename_i k es k' es'
    cases ht : Nat.beq k k' <;> simp only [ht, cond_true, cond_false] at h
    · cases h
    simp only [Option.some.injEq] at h; subst h
    have h1 := Nat.eq_of_beq_eq_true ht
    have h2 := hx _ (List.mem_cons_self ..)
    subst h1; subst h2
    exact ⟨trivial, FamRel.ren (XK_stays _) hr.le hσ hν hφ (.inl ⟨rfl, rfl⟩) hb, fun g hg => by simp only [Fp, hφ] at hg ⊢; exact hg⟩
  · rename_i k es x ps k' es' y qs
    cases ht : Nat.beq k k' <;> simp only [ht, cond_true, cond_false] at h
    · cases h
    split at h
    · rename_i ys hys
      simp only [Option.some.injEq] at h; subst h
      have h1 := Nat.eq_of_beq_eq_true ht
      have h2 := hx (y = x) (by simp)
      have h3 := hx (es' = es) (by simp)
      subst h1; subst h2; subst h3
      refine ⟨trivial, FamRel.ren (XK_stays _) hr.le hσ hν hφ (.inr ⟨_, _, _, rfl, rfl, fun agg v hv => ?_⟩) hb, fun g hg => by simp only [Fp, hφ] at hg ⊢; exact hg⟩
      have hy : AllQ ys := fun p hp => hx p (List.mem_cons_of_mem _ (List.mem_cons_of_mem _ hp))
      cases agg with
      | true => obtain ⟨cs, e, hp⟩ := hv; exact ⟨cs, e, fitPs_sound hr hys hy hp⟩
      | false => exact ⟨hv.1, fitPs_sound hr hys hy hv.2⟩
    · cases h
  · cases h
end
end Go.Abs

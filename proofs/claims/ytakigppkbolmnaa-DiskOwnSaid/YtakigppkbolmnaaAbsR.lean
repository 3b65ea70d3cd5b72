/- An evaluator over descriptions of values: rows of records. -/
import Derived.Test.YtakigppkbolmnaaAbsT
namespace Go.Abs
open Go.RowKit
section
variable {P : Program} {D : Dom}

theorem fdPart_rel {E : Env} {f : FK} {r : Rec} {j : Nat} {cs : List Value} : PartRel D E (fdPart f r j) cs ↔ FdRel E.σ f r j cs := by
  cases f <;> exact Iff.rfl

theorem recParts_rel {E : Env} : ∀ {sh : List FK} {j : Nat} {r : Rec} {cs : List Value}, PartsRel D E (recParts sh j r) cs ↔ RecRel E.σ sh j r cs
  | [], _, _, _ => Iff.rfl
  | f :: fs, j, r, cs => by
    constructor
    · rintro ⟨c1, c2, e, h1, h2⟩
      exact ⟨c1, c2, e, fdPart_rel.1 h1, recParts_rel.1 h2⟩
    · rintro ⟨c1, c2, e, h1, h2⟩
      exact ⟨c1, c2, e, fdPart_rel.2 h1, recParts_rel.2 h2⟩

theorem rec_at (pre : Rec) (x : Fd) (r : Rec) : (pre ++ x :: r)[pre.length]? = some x := by
  rw [List.getElem?_append_right (Nat.le_refl _), Nat.sub_self]; rfl

theorem mkRec_step {σ : Loc} {f : FK} {fs : List FK} {pre r : Rec} {x : Fd} {c1 c2 : List Value} (h1 : FdRel σ f (pre ++ x :: r) pre.length c1) (h2 : RecRel σ fs (pre ++ [x]).length ((pre ++ [x]) ++ r) c2) :
    RecRel σ (f :: fs) pre.length (pre ++ x :: r) (c1 ++ c2) := by
  refine ⟨c1, c2, rfl, h1, ?_⟩
  rw [List.length_append, List.append_assoc] at h2
  exact h2

theorem mkRec_sound {E : Env} : ∀ {sh : List FK} {ps : List (Part D.τ)} {r : Rec} {cs : List Value} (pre : Rec), mkRec D sh ps = some r → PartsRel D E ps cs → RecRel E.σ sh pre.length (pre ++ r) cs
  | [], [], r, cs, pre, h, hp => by
    simp only [mkRec, Option.some.injEq] at h
    subst h
    cases hp
    rfl
  | [], _ :: _, r, cs, pre, h, hp => by simp [mkRec] at h
  | f :: fs, ps, r, cs, pre, h, hp => by
    unfold mkRec at h
    split at h
    · rename_i e1; cases e1
    · rename_i e1; cases e1
    · rename_i k fs' k' lt n ps' e1
      cases e1
      split at h
      · rename_i hk
        subst hk
        obtain ⟨r', hr', rfl⟩ := Option.map_eq_some_iff.1 h
        obtain ⟨c1, c2, rfl, h1, h2⟩ := hp
        refine mkRec_step ?_ (mkRec_sound (pre ++ [.i n]) hr' h2)
        show c1 = [.int k (recI _ _)]
        rw [recI, rec_at]
        exact h1
      · cases h
    · rename_i fs' lt x ps' e1
      cases e1
      obtain ⟨r', hr', rfl⟩ := Option.map_eq_some_iff.1 h
      obtain ⟨c1, c2, rfl, h1, h2⟩ := hp
      refine mkRec_step ?_ (mkRec_sound (pre ++ [.b x]) hr' h2)
      show c1 = [.bool (recB _ _)]
      rw [recB, rec_at]
      exact h1
    · rename_i fs' x ps' e1
      cases e1
      obtain ⟨r', hr', rfl⟩ := Option.map_eq_some_iff.1 h
      obtain ⟨c1, c2, rfl, h1, h2⟩ := hp
      refine mkRec_step ?_ (mkRec_sound (pre ++ [.s x]) hr' h2)
      show c1 = [.string (recS _ _)]
      rw [recS, rec_at]
      exact h1
    · rename_i k fs' k' l ps' e1
      cases e1
      split at h
      · rename_i hk
        subst hk
        obtain ⟨r', hr', rfl⟩ := Option.map_eq_some_iff.1 h
        obtain ⟨c1, c2, rfl, ⟨v, e, hs⟩, h2⟩ := hp
        refine mkRec_step ⟨v, e, ?_⟩ (mkRec_sound (pre ++ [.w l]) hr' h2)
        rw [recW, rec_at]
        exact hs
      · cases h
    · rename_i k fs' ps' e1
      cases e1
      obtain ⟨r', hr', rfl⟩ := Option.map_eq_some_iff.1 h
      obtain ⟨c1, c2, rfl, h1, h2⟩ := hp
      refine mkRec_step ⟨.slice none 0 0, h1, ?_⟩ (mkRec_sound (pre ++ [.w []]) hr' h2)
      rw [recW, rec_at]
      exact ⟨none, 0, rfl, Nat.le_refl _, Nat.zero_le _, fun _ => rfl, fun i hi => by cases hi⟩
    · rename_i ps' k n fs' e1
      cases e1
      split at h
      · rename_i m q hd
        split at h
        · rename_i l hl
          obtain ⟨r', hr', rfl⟩ := Option.map_eq_some_iff.1 h
          obtain ⟨c1, c2, rfl, hlen, h1, h2⟩ := dropP_sound hd hp
          have hc := allInts_rel hl h1
          refine mkRec_step ?_ (mkRec_sound (pre ++ [.w l]) hr' h2)
          show (recW _ _).length = n ∧ c1 = (recW _ _).map (.int k)
          rw [recW, rec_at]
          subst hc
          rw [List.length_map] at hlen
          exact ⟨hlen, rfl⟩
        · cases h
      · cases h
    · cases h

/-! Where records lie. -/

theorem le_rows {i n s : Nat} (h : i < n) : i * s + s ≤ n * s := by
  have := Nat.mul_le_mul_right s (show i + 1 ≤ n from h)
  rwa [Nat.add_mul, Nat.one_mul] at this

theorem row_split {xs : List Value} {n s i : Nat} (hl : xs.length = n * s) (hi : i < n) :
    ∃ c1 c2 c3, xs = c1 ++ (c2 ++ c3) ∧ c1.length = i * s ∧ c2.length = s ∧ c2 = (xs.drop (i * s)).take s := by
  have h := le_rows (s := s) hi
  refine ⟨xs.take (i * s), (xs.drop (i * s)).take s, (xs.drop (i * s)).drop s, by rw [List.take_append_drop, List.take_append_drop], by rw [List.length_take]; omega, by rw [List.length_take, List.length_drop]; omega, rfl⟩

theorem row_set {c1 c2 c3 d2 : List Value} {s i j : Nat} (h1 : c1.length = i * s) (h2 : c2.length = s) (h3 : d2.length = s) :
    ((c1 ++ (d2 ++ c3)).drop (j * s)).take s = if j = i then d2 else ((c1 ++ (c2 ++ c3)).drop (j * s)).take s := by
  by_cases hji : j = i
  · subst hji
    rw [if_pos rfl, ← h1, List.drop_left, ← h3, List.take_left]
  · rw [if_neg hji]
    rcases Nat.lt_or_ge j i with h | h
    · have := le_rows (s := s) h
      rw [List.drop_append_of_le_length (by omega), List.drop_append_of_le_length (by omega), List.take_append_of_le_length (by rw [List.length_drop]; omega), List.take_append_of_le_length (by rw [List.length_drop]; omega)]
    · have := le_rows (s := s) (show i < j by omega)
      have e : ∀ z : List Value, z.length = s → (c1 ++ (z ++ c3)).drop (j * s) = c3.drop (j * s - i * s - s) := fun z hz => by
        rw [List.drop_append, List.drop_of_length_le (by omega), List.nil_append, List.drop_append, List.drop_of_length_le (by omega), List.nil_append, h1, hz]
      rw [e d2 h3, e c2 h2]

theorem row_get {xs : List Value} {c1 c2 c3 : List Value} (he : xs = c1 ++ (c2 ++ c3)) {j : Nat} {v : Value} (h : c2[j]? = some v) : xs[c1.length + j]? = some v := by
  have hj := (List.getElem?_eq_some_iff.1 h).1
  rw [he, List.getElem?_append_right (by omega), Nat.add_sub_cancel_left, List.getElem?_append_left hj]
  exact h

theorem getD_rec {ll : List Rec} {i : Nat} (h : i < ll.length) : ll[i]? = some (ll.getD i []) := by
  rw [List.getD_eq_getElem?_getD, List.getElem?_eq_getElem h]; rfl

theorem zm_now {M : Mem} {w0 : World} {σ : Loc} {ν : Nat → Value} {S : St D.τ} {w : World} (hR : RR D M w0 σ ν S w) {g : Nat} (hg : σ.zm g) {a : Addr} (ha : a.block = g) {v : Value} (h : σ.zw.cell? a = some v) : w.cell? a = some v := by
  rw [← h]
  exact World.cell?_of_block (by rw [ha]; exact (hR.zk g hg).2)

theorem sound_lenR (x : Operand) (t ty : TypeId) : Sound P D (oLenR P D x t) (fun ρ => valOf (Builtin.len_ #[t] ty #[ρ x])) := by
  intro S r l h hps M w0 a w hRA
  unfold oLenR at h
  obtain ⟨av, l0, hav, h⟩ := rdA_run h
  split at h
  · obtain ⟨σ, ν, hR, hA⟩ := hRA
    obtain ⟨hone, u, hu, ao, cap, e1, _⟩ := evalA_rel hA hav
    simp only [List.cons.injEq, and_true] at hu
    split at h
    · rename_i e ht
      have hr := ok1_run h
      subst hr
      refine upTo_val (w' := w) ?_ (lands_pure hR hA rel_int)
      rw [hu, e1]
      exact run_len_slice ht
    · simp at h
  · rename_i b
    obtain ⟨l1, h⟩ := box_run h
    split at h
    · rename_i e' sh ll hbx
      obtain ⟨σ, ν, hR, hA⟩ := hRA
      obtain ⟨hone, hal, h1c, hv⟩ := evalA_rel hA hav
      simp only [List.cons.injEq, and_true] at hv
      have hv' : a.eval x = ν b := hv
      split at h
      · rename_i e ht
        cases hbp : Nat.ble 1 (rsz sh) <;> simp only [hbp, cond_true, cond_false, run_fail] at h
        have hpos := Nat.le_of_ble_eq_true hbp
        have hr := ok1_run h
        subst hr
        have hb := hR.boxes b
        rw [hbx] at hb
        obtain ⟨n', xs, hown, hp, _⟩ := hb
        have hown' : w.ownsL 0 e' (rsz sh) (ν b) n' xs := hown
        have hn' : ll.length = n' := by
          have := hown'.1
          rw [hp.1] at this
          exact Nat.eq_of_mul_eq_mul_right hpos this
        refine upTo_val (w' := w) ?_ (lands_pure hR hA rel_int)
        rw [hn', hv']
        rcases hown'.2 with ⟨hn, hz⟩ | ⟨g, cap, cur, hνe, _⟩
        · rw [hn, hz]; exact run_len_slice ht
        · rw [hνe]; exact run_len_slice ht
      · simp at h
    · exact sound_len2 x t ty S r _ h hps M w0 a w hRA
  · exact sound_len2 x t ty S r _ h hps M w0 a w hRA

theorem sound_indexAddrR (t : TypeId) (x y : Operand) : Sound P D (oIndexAddrR P D t x y) (fun ρ => do pure (.value (← Instr.indexAt t (ρ x) (ρ y)))) := by
  intro S r l h hps M w0 a w hRA
  unfold oIndexAddrR at h
  split at h
  · exact sound_indexAddr2 t _ y S r _ h hps M w0 a w hRA
  · rename_i x' _
    obtain ⟨av, bv, l0, hav, hbv, h⟩ := pair_run h
    split at h
    · rename_i b kd lt i
      obtain ⟨l1, h⟩ := box_run h
      split at h
      · rename_i e' sh ll hbx
        obtain ⟨σ, ν, hR, hA⟩ := hRA
        obtain ⟨hone, hal, h1c, hv⟩ := evalA_rel hA hav
        simp only [List.cons.injEq, and_true] at hv
        have hv' : a.eval x = ν b := hv
        split at h
        · rename_i e ht
          split at h
          · rename_i n hs
            cases hb : (Nat.beq n (rsz sh) && Nat.ble 1 n) <;> simp only [hb, cond_true, cond_false, run_fail] at h
            simp only [Bool.and_eq_true] at hb
            have hn := Nat.eq_of_beq_eq_true hb.1
            have hpos := Nat.le_of_ble_eq_true hb.2
            subst hn
            have hr := ok1_run h
            subst hr
            have h0 : 0 ≤ i := hps _ (by simp)
            have h1 : i < ll.length := hps _ (by simp)
            have hbb := hR.boxes b
            rw [hbx] at hbb
            obtain ⟨n', xs, hown, hp, _⟩ := hbb
            have hown' : w.ownsL 0 e' (rsz sh) (ν b) n' xs := hown
            have hn' : ll.length = n' := by
              have := hown'.1
              rw [hp.1] at this
              exact Nat.eq_of_mul_eq_mul_right (by omega) this
            rcases hown'.2 with ⟨hn, hz⟩ | ⟨g, cap, cur, hνe, _⟩
            · omega
            · refine upTo_val (w' := w) (v := .pointer (some ⟨g, i.toNat * rsz sh + 0, none⟩)) ?_ (lands_pure hR hA ⟨rfl, hal, g, by show (ν b).ownBlock = _; rw [hνe]; rfl, rfl⟩)
              rw [int_rel (evalA_rel hA hbv), hv', hνe]
              have := run_indexAt_slice (P := P) (b := g) (off := 0) (cap := cap) (n := n') (k := kd) (w := w) ht hs h0 (by omega)
              rw [Nat.zero_add] at this
              rw [Nat.add_zero]
              exact this
          · simp at h
        · simp at h
      · exact sound_indexAddr2 t _ y S r _ h hps M w0 a w hRA
    · rename_i sh ll kd lt i
      obtain ⟨σ, ν, hR, hA⟩ := hRA
      obtain ⟨hone, u, hu, ao, cap, e1, _, _, _, hc⟩ := evalA_rel hA hav
      simp only [List.cons.injEq, and_true] at hu
      split at h
      · rename_i e ht
        split at h
        · rename_i n hs
          cases hb : Nat.beq n (rsz sh) <;> simp only [hb, cond_true, cond_false, run_fail] at h
          have hn := Nat.eq_of_beq_eq_true hb
          subst hn
          have hr := ok1_run h
          subst hr
          have h0 : 0 ≤ i := hps _ (by simp)
          have h1 : i < ll.length := hps _ (by simp)
          obtain ⟨g, o, vs, q1, q2, q3, q4⟩ := hc i.toNat _ (getD_rec (by omega))
          refine upTo_val (w' := w) (v := .pointer (some ⟨g, (o + i.toNat * rsz sh) + 0, none⟩)) ?_ (lands_pure hR hA ⟨rfl, g, o + i.toNat * rsz sh, vs, rfl, q2, q3, q4⟩)
          rw [int_rel (evalA_rel hA hbv), hu, e1, q1]
          exact run_indexAt_slice (P := P) (b := g) (off := o) (cap := cap) (n := ll.length) (k := kd) (w := w) ht hs h0 h1
        · simp at h
      · simp at h
    · exact sound_indexAddr2 t _ y S r _ h hps M w0 a w hRA

theorem sound_fieldAddrR (s : TypeId) (x : Operand) (i : Nat) : Sound P D (oFieldAddrR P D s x i) (fun ρ => do pure (.value (← Instr.fieldAt s (ρ x) i))) := by
  intro S r l h hps M w0 a w hRA
  unfold oFieldAddrR at h
  obtain ⟨av, l0, hav, h⟩ := rdA_run h
  have run : ∀ {fs : Array Field} {f : Field} {n g o : Nat}, P.underlying s = some (.struct fs) → fs[i]? = some f → szOf P f.type = some (n + 1) → a.eval x = .pointer (some ⟨g, o, none⟩) →
      (Instr.fieldAt s (a.eval x) i).run P w = .ok (.pointer (some ⟨g, o + f.offset, none⟩)) w := by
    intro fs f n g o hfs hf hn hv
    unfold Instr.fieldAt
    rw [hv]
    simp [run_underlying hfs, hf, Instr.sureAddr, fieldPlace, run_sizeOfB hn, Addr.add_lit]
  split at h
  · rename_i b sh k off
    obtain ⟨σ, ν, hR, hA⟩ := hRA
    obtain ⟨hone, hal, g, hg, hv⟩ := evalA_rel hA hav
    simp only [List.cons.injEq, and_true] at hv
    split at h
    · rename_i fs hfs
      split at h
      · rename_i f hf
        split at h
        · rename_i n hn
          have hr := ok1_run h
          subst hr
          refine upTo_val (run hfs hf hn hv) (lands_pure hR hA ⟨rfl, hal, g, hg, by rw [Nat.add_assoc]⟩)
        · simp at h
      · simp at h
    · simp at h
  · rename_i sh r' off
    obtain ⟨σ, ν, hR, hA⟩ := hRA
    obtain ⟨hone, g, o, vs, hv, hz, hrr, hc⟩ := evalA_rel hA hav
    simp only [List.cons.injEq, and_true] at hv
    split at h
    · rename_i fs hfs
      split at h
      · rename_i f hf
        split at h
        · rename_i n hn
          have hr := ok1_run h
          subst hr
          refine upTo_val (run hfs hf hn hv) (lands_pure hR hA ⟨rfl, g, o, vs, by rw [Nat.add_assoc], hz, hrr, hc⟩)
        · simp at h
      · simp at h
    · simp at h
  · exact sound_fieldAddr s x i S r _ h hps M w0 a w hRA

theorem land_load {M : Mem} {w0 : World} {σ : Loc} {ν : Nat → Value} {S : St D.τ} {a : Act} {w : World} (hR : RR D M w0 σ ν S w) (hA : RA D M w0 σ ν S a) {t : TypeId} {x : Operand} {b : Addr} {m : List (Part D.τ)} {v : AV D.τ} {cs : List Value} {ps : List Prop}
    (hm : mkAV (aggB P t) m = some v) (hp : PartsRel D (S.env D M w0 σ ν) m cs) (hs : szOf P t = some cs.length) (hx : a.eval x = .pointer (some b)) (hc : ∀ j u, cs[j]? = some u → w.cell? (b.add j) = some u) :
    UpTo P (Lands M w0 S a ⟨v, [], ps⟩) ((do pure (Next.value (← Instr.loadAt t (a.eval x))) : Sem Next).run P w) := by
  obtain ⟨hr1, hr2⟩ := run_loadVarB (P := P) (a := b) (cs := cs) hs hc
  rcases mkAV_rel hm hp with ⟨hg, hv⟩ | ⟨hg, u, hd, hv⟩
  · exact upTo_load hx (hr1 hg) (lands_pure hR hA hv)
  · exact upTo_load hx (hr2 hg u hd) (lands_pure hR hA hv)

theorem sound_loadR (t : TypeId) (x : Operand) : Sound P D (oLoadR P D t x) (fun ρ => do pure (.value (← Instr.loadAt t (ρ x)))) := by
  intro S r l h hps M w0 a w hRA
  unfold oLoadR at h
  split at h
  · exact sound_load2 t _ S r _ h hps M w0 a w hRA
  · rename_i x' _
    obtain ⟨av, l0, hav, h⟩ := rdA_run h
    split at h
    · rename_i b sh i off
      obtain ⟨l1, h⟩ := box_run h
      split at h
      · rename_i e' sh' ll hbx
        cases hsh : shEq sh sh' <;> simp only [hsh, cond_true, cond_false, run_fail] at h
        have := shEq_eq hsh
        subst this
        obtain ⟨σ, ν, hR, hA⟩ := hRA
        obtain ⟨hone, hal, g, hg, hv⟩ := evalA_rel hA hav
        simp only [List.cons.injEq, and_true] at hv
        split at h
        · rename_i n hsz
          split at h
          · rename_i p1 m p3 hsp
            split at h
            · rename_i v hm
              simp only [run_ret] at h
              obtain ⟨rfl, _⟩ := h
              have hlt : i < ll.length := hps _ (by simp)
              have hbb := hR.boxes b
              rw [hbx] at hbb
              obtain ⟨n', xs, hown, hp, _⟩ := hbb
              have hown' : w.ownsL 0 e' (rsz sh) (ν b) n' xs := hown
              obtain ⟨c1, c2, c3, he, hl1, hl2, hc2⟩ := row_split hp.1 hlt
              have hrec := hp.2 i _ (getD_rec hlt)
              rw [← hc2] at hrec
              obtain ⟨d1, d2, d3, hd, k1, k2, r1, r2, r3⟩ := splitP_sound hsp (recParts_rel.2 hrec)
              refine land_load hR hA hm r2 (by rw [k2]; exact hsz) hv (fun j u hu => ?_)
              have h1 := row_get hd hu
              have h2 := row_get he h1
              have h3 := hown'.cells (g := g) hg _ _ h2
              rw [Addr.add_lit] at h3 ⊢
              rw [← h3]
              congr 2
              omega
            · simp at h
          · simp at h
        · simp at h
      · simp at h
    · rename_i sh r' off
      obtain ⟨σ, ν, hR, hA⟩ := hRA
      obtain ⟨hone, g, o, vs, hv, hz, hrr, hc⟩ := evalA_rel hA hav
      simp only [List.cons.injEq, and_true] at hv
      split at h
      · rename_i n hsz
        split at h
        · rename_i p1 m p3 hsp
          split at h
          · rename_i v hm
            simp only [run_ret] at h
            obtain ⟨rfl, _⟩ := h
            obtain ⟨d1, d2, d3, hd, k1, k2, r1, r2, r3⟩ := splitP_sound hsp (recParts_rel.2 hrr)
            refine land_load hR hA hm r2 (by rw [k2]; exact hsz) hv (fun j u hu => ?_)
            have h1 := row_get hd hu
            have h3 := zm_now hR hz rfl (hc _ _ h1)
            rw [Addr.add_lit, ← h3]
            congr 2
            omega
          · simp at h
        · simp at h
      · simp at h
    · exact sound_load2 t _ S r _ h hps M w0 a w hRA

theorem sound_storeR (t : TypeId) (x y : Operand) : Sound P D (oStoreR P D t x y) (fun ρ => do Instr.storeAt t (ρ x) (ρ y); pure .skip) := by
  intro S r l h hps M w0 a w hRA
  unfold oStoreR at h
  obtain ⟨av, l0, hav, h⟩ := rdA_run h
  split at h
  · rename_i b sh i off
    obtain ⟨ay, l1, hay, h⟩ := rdA_run h
    obtain ⟨l2, h⟩ := box_run h
    split at h
    · rename_i e' sh' ll hbx
      cases hsh : shEq sh sh' <;> simp only [hsh, cond_true, cond_false, run_fail] at h
      have := shEq_eq hsh
      subst this
      obtain ⟨σ, ν, hR, hA⟩ := hRA
      obtain ⟨hone, hal, g, hg, hv⟩ := evalA_rel hA hav
      simp only [List.cons.injEq, and_true] at hv
      have hy := evalA_rel hA hay
      split at h
      · rename_i n qs hsz hqs
        split at h
        · rename_i p1 p2 p3 hsp
          split at h
          · rename_i r' hmk
            simp only [run_ret] at h
            obtain ⟨rfl, _⟩ := h
            have hlt : i < ll.length := hps _ (by simp)
            have hsum : (qs.map (psize D)).sum = n := hps _ (by simp)
            have hbb := hR.boxes b
            rw [hbx] at hbb
            obtain ⟨n', xs, hown, hp, h1c⟩ := hbb
            have hown' : w.ownsL 0 e' (rsz sh) (ν b) n' xs := hown
            obtain ⟨c1, c2, c3, he, hl1, hl2, hc2⟩ := row_split hp.1 hlt
            have hrec := hp.2 i _ (getD_rec hlt)
            rw [← hc2] at hrec
            obtain ⟨d1, d2, d3, hd, k1, k2, r1, r2, r3⟩ := splitP_sound hsp (recParts_rel.2 hrec)
            have hq := partsOf_rel hqs hy
            have hql : (a.eval y).cells.toList.length = n := by rw [hq.len]; exact hsum
            have hnew : RecRel (S.env D M w0 σ ν).σ sh 0 r' (d1 ++ ((a.eval y).cells.toList ++ d3)) := mkRec_sound [] hmk (r1.append (hq.append r3))
            rcases hown'.2 with ⟨hνn, _⟩ | ⟨g', cap, cur, hνe, _, hcur, hnc, hcm, hcs, htk⟩
            · have : (ν b).ownBlock = some g := hg
              rw [hνn] at this
              cases this
            have hgg : g' = g := by
              have : (ν b).ownBlock = some g := hg
              rw [hνe] at this
              simpa [Value.ownBlock] using this
            subst hgg
            have hxl := hown'.1
            have hcurl : cur.toList = (c1 ++ ((d1 ++ (d2 ++ d3)) ++ c3)) ++ cur.toList.drop (n' * rsz sh) := by
              rw [← hd, ← he, ← htk, List.take_append_drop]
            have hle := le_rows (s := rsz sh) hlt
            have hcz : cur.size = (n' * rsz sh) + (cur.toList.drop (n' * rsz sh)).length := by
              have := congrArg List.length hcurl
              rw [← hd, ← he, List.length_append, Array.length_toList, hxl] at this
              exact this
            have hd2 : d1.length + (n + d3.length) = rsz sh := by
              rw [← hl2, hd, List.length_append, List.length_append, k1, k2]
            have hst := run_storeVarB (P := P) (w := w) (v := a.eval y) (n := n) rfl hsz hql hq.oneCell hcur (off := i * rsz sh + off) (by rw [hcz, ← hxl, hp.1]; omega)
            have hset : cur.toList.take (i * rsz sh + off) ++ (a.eval y).cells.toList ++ cur.toList.drop (i * rsz sh + off + n) = (c1 ++ ((d1 ++ ((a.eval y).cells.toList ++ d3)) ++ c3)) ++ cur.toList.drop (n' * rsz sh) := by
              generalize cur.toList.drop (n' * rsz sh) = Z at hcurl
              rw [hcurl]
              have e1 : i * rsz sh + off = (c1 ++ d1).length := by rw [List.length_append, hl1, k1]
              have e2 : (c1 ++ ((d1 ++ (d2 ++ d3)) ++ c3)) ++ Z = (c1 ++ d1) ++ (d2 ++ (d3 ++ (c3 ++ Z))) := by simp only [List.append_assoc]
              rw [e2, e1, List.take_left, ← k2, List.drop_length_add_append, List.drop_left]
              simp only [List.append_assoc]
            rw [hset] at hst
            refine upTo_store hv hst ?_
            unfold Lands
            simp only [bx_one]
            have hle2 : (S.env D M w0 σ ν).le ((S.upd (.box b (.dyn e' (.lrs sh (ll.set i r'))))).env D M w0 σ ν) := env_upd_box (by trivial)
            have hnl : (d1 ++ ((a.eval y).cells.toList ++ d3)).length = rsz sh := by
              rw [List.length_append, List.length_append, hql, ← hd2]
            refine ⟨σ, ν, hR.updBox (by trivial) (by rw [hbx]; rfl) ?_ ?_, hA.mono hle2 rfl rfl, undef_rel⟩
            · have hxs2 : (c1 ++ ((d1 ++ ((a.eval y).cells.toList ++ d3)) ++ c3)).length = n' * rsz sh := by
                have hnl' := hnl
                have hxl' := hxl
                rw [he] at hxl'
                simp only [List.length_append] at hnl' hxl' ⊢
                omega
              refine ⟨n', c1 ++ ((d1 ++ ((a.eval y).cells.toList ++ d3)) ++ c3), show World.ownsL _ 0 e' (rsz sh) _ _ _ from ⟨hxs2, .inr ⟨g', cap, _, hνe, Nat.zero_le _, setRow_heap w _ cur _ e' _ hcur, hnc, hcm, ?_, ?_⟩⟩, ⟨?_, fun j rj hj => ?_⟩, h1c⟩
              · rw [List.size_toArray, List.length_append, hxs2]
                omega
              · rw [List.toList_toArray, ← hxs2, List.take_left]
              · rw [hxs2, List.length_set, ← hxl, hp.1]
              · rw [row_set (c2 := c2) hl1 hl2 hnl]
                by_cases hji : j = i
                · subst hji
                  rw [List.getElem?_set_self hlt] at hj
                  simp only [Option.some.injEq] at hj
                  subst hj
                  rw [if_pos rfl]
                  exact hnew
                · rw [if_neg hji, ← he]
                  rw [List.getElem?_set_ne (fun e => hji e.symm)] at hj
                  exact hp.2 j rj hj
            · rw [hbx]
              show w.grownBy _ (ν b).ownBlock
              rw [hνe]
              exact grownBy_setRow w _ _
          · simp at h
        · simp at h
      · simp at h
    · simp at h
  · exact sound_store2 t x y S r _ h hps M w0 a w hRA

end
end Go.Abs

/- Several texts put together: DR5 DR6 DR7 D15. -/
import Derived.Test.YtakigppkbolmnaaMrg10
namespace Go.Num
open Go.Abs Go.Proofs Go.Shelf Go.RowKit
theorem strLt_iff {s t : ByteArray} : strLt s t = true ↔ s.data.toList < t.data.toList := by
  unfold strLt
  rw [bytesLess_eq, decide_eq_true_eq]
theorem ba_ext {s t : ByteArray} (h : s.data.toList = t.data.toList) : s = t := by
  rw [← ba_back s, ← ba_back t, h]
theorem strLt_irr {s : ByteArray} : ¬ strLt s s = true := fun h => List.lt_irrefl _ (strLt_iff.1 h)
theorem strLt_trans {s t u : ByteArray} (h : strLt s t = true) (k : strLt t u = true) : strLt s u = true := strLt_iff.2 (List.lt_trans (strLt_iff.1 h) (strLt_iff.1 k))
theorem strLt_tot {s t : ByteArray} (h : strLt s t = false) (hn : s ≠ t) : strLt t s = true := by
  refine strLt_iff.2 ?_
  have h1 : ¬ s.data.toList < t.data.toList := fun e => by rw [strLt_iff.2 e] at h; cases h
  have h2 : t.data.toList ≤ s.data.toList := h1
  rcases List.le_iff_lt_or_eq.1 h2 with h3 | h3
  · exact h3
  · exact (hn (ba_ext h3.symm)).elim
def SortR (rs : List Rec) : Prop := rs.Pairwise fun a b => strLt (recS a 0) (recS b 0) = true
theorem SortR.nodup {rs : List Rec} (h : SortR rs) : rs.Nodup := List.Pairwise.imp (fun {a b} hab e => by rw [e] at hab; exact strLt_irr hab) h
theorem sortR_eq {rs rs' : List Rec} (h : SortR rs) (h' : SortR rs') (hm : ∀ r, r ∈ rs ↔ r ∈ rs') : rs = rs' :=
  List.Perm.eq_of_pairwise (fun a b _ _ h1 h2 => (strLt_irr (strLt_trans h1 h2)).elim) h h' ((List.perm_ext_iff_of_nodup h.nodup h'.nodup).2 (fun r => hm r))
structure Keyd (es : List (Rec × Ob)) : Prop where
  keys : ∀ e ∈ es, ∃ s, e.1 = [Fd.s s]
  nodup : (es.map (·.1)).Nodup
theorem Okd.keyd {d : DkT} (h : Okd d) : Keyd d.2.2.2.2 := ⟨h.keys1, h.nodup⟩
theorem Mid.keyd {es : List (Rec × Ob)} {k : Nat} (h : Mid es k) : Keyd es := ⟨fun e he => (h.keys e he).imp fun _ h => h.1, h.nodup⟩
theorem Keyd.set {es : List (Rec × Ob)} (h : Keyd es) (s : ByteArray) (o : Ob) : Keyd (setE es [Fd.s s] o) := by
  cases hh : hasE es [Fd.s s]
  · rw [setE_keysN hh]
    refine ⟨fun e he => ?_, ?_⟩
    · rcases List.mem_append.1 he with he | he
      · exact h.keys e he
      · rw [List.mem_singleton.1 he]
        exact ⟨_, rfl⟩
    · rw [List.map_append, List.nodup_append]
      refine ⟨h.nodup, by simp, fun a ha b hb => ?_⟩
      simp only [List.map_cons, List.map_nil, List.mem_singleton] at hb
      subst hb
      intro e
      subst e
      rw [hasE_iff.2 ha] at hh
      cases hh
  · refine ⟨fun e he => ?_, by rw [setE_keys hh]; exact h.nodup⟩
    rcases setE_mem he with he | he
    · exact ⟨s, by rw [he]⟩
    · exact h.keys e he
theorem Keyd.del {es : List (Rec × Ob)} (h : Keyd es) (k : Rec) : Keyd (delE es k) := ⟨fun e he => h.keys e (delE_mem he), delE_nodup h.nodup⟩
def rowE7 (es : List (Rec × Ob)) (s : ByteArray) : Rec := [Fd.s s, Fd.w (obD (obE es [Fd.s s])), Fd.i (obS (obE es [Fd.s s]))]
theorem mem_image {es : List (Rec × Ob)} (h : Keyd es) {r : Rec} : r ∈ imageM es ↔ ∃ s, hasE es [Fd.s s] = true ∧ r = rowE7 es s := by
  unfold imageM
  rw [List.mem_map]
  constructor
  · rintro ⟨q, hq, rfl⟩
    have h1 := (sortK_mem h.keys).1 hq
    obtain ⟨e, he, rfl⟩ := List.mem_map.1 h1
    obtain ⟨s, hs⟩ := h.keys e he
    refine ⟨s, hasE_iff.2 (hs ▸ h1), ?_⟩
    rw [hs]
    rfl
  · rintro ⟨s, hs, rfl⟩
    exact ⟨[Fd.s s], (sortK_mem h.keys).2 (hasE_iff.1 hs), rfl⟩
theorem keyL_nodup {es : List (Rec × Ob)} (h : Keyd es) : (keyL es).Nodup := by
  unfold keyL
  have h1 := h.nodup
  have h2 := List.pairwise_map.1 h1
  refine List.Pairwise.map _ (R := fun a b : Rec × Ob => a.1 ≠ b.1 ∧ (∃ s, a.1 = [Fd.s s]) ∧ (∃ s, b.1 = [Fd.s s])) (fun a b hab he => ?_) ?_
  · obtain ⟨h3, ⟨s, hs⟩, ⟨t, ht⟩⟩ := hab
    refine h3 ?_
    rw [hs, ht] at he ⊢
    rw [ba_ext (s := s) (t := t) he]
  · exact List.Pairwise.imp_of_mem (fun {a b} ha hb hab => ⟨hab, h.keys a ha, h.keys b hb⟩) h2
theorem sortR_image {es : List (Rec × Ob)} (h : Keyd es) : SortR (imageM es) := by
  unfold SortR imageM sortK
  rw [List.map_map, List.pairwise_map]
  have h1 := List.pairwise_mergeSort leB_trans leB_total (keyL es)
  have h2 : ((keyL es).mergeSort leB).Nodup := (List.mergeSort_perm (keyL es) leB).nodup_iff.2 (keyL_nodup h)
  refine List.Pairwise.imp (fun {a b} hab => ?_) (h1.and h2)
  obtain ⟨h3, h4⟩ := hab
  refine strLt_iff.2 ?_
  show a < b
  have h5 : a ≤ b := of_decide_eq_true h3
  rcases List.le_iff_lt_or_eq.1 h5 with h6 | h6
  · exact h6
  · exact (h4 h6).elim
theorem image_len (es : List (Rec × Ob)) : (imageM es).length = es.length := by unfold imageM; rw [List.length_map, sortK_len]
theorem at_image {es : List (Rec × Ob)} (h : Keyd es) (s : ByteArray) :
    (hasE es [Fd.s s] = true → 0 ≤ atF (imageM es) s ∧ row7 (imageM es) s = rowE7 es s) ∧ (hasE es [Fd.s s] = false → atF (imageM es) s < 0) := by
  rcases at_cases (imageM es) s with ⟨n, h1, h2, h3, h4⟩ | ⟨h1, h2⟩
  · have hm : (imageM es).getD n [] ∈ imageM es := by
      rw [List.getD_eq_getElem?_getD, List.getElem?_eq_getElem h1]
      exact List.getElem_mem h1
    obtain ⟨t, ht, he⟩ := (mem_image h).1 hm
    have hst : t = s := by rw [he] at h2; exact h2
    subst hst
    refine ⟨fun _ => ⟨by omega, ?_⟩, fun hh => by rw [ht] at hh; cases hh⟩
    unfold row7
    rw [h4, Int.toNat_natCast, he]
  · refine ⟨fun hh => ?_, fun _ => by omega⟩
    obtain ⟨i, hi, he⟩ := List.getElem_of_mem ((mem_image h).2 ⟨s, hh, rfl⟩)
    refine (h1 i hi ?_).elim
    rw [List.getD_eq_getElem?_getD, List.getElem?_eq_getElem hi, Option.getD_some, he]
    rfl
def rowsE (es : List (Rec × Ob)) : List Rec := es.map fun e => [Fd.s (recS e.1 0), Fd.w (obD e.2), Fd.i (obS e.2)]
theorem obE_in : ∀ {es : List (Rec × Ob)}, (es.map (·.1)).Nodup → ∀ e ∈ es, obE es e.1 = e.2
  | [], _, e, he => by cases he
  | (x, o) :: es, h, e, he => by
    simp only [List.map_cons, List.nodup_cons] at h
    rcases List.mem_cons.1 he with he | he
    · subst he
      simp [obE, getE]
    · have hne : x ≠ e.1 := fun h' => h.1 (h' ▸ List.mem_map.2 ⟨e, he, rfl⟩)
      have := obE_in h.2 e he
      simpa [obE, getE, hne] using this
theorem rows_perm {es : List (Rec × Ob)} (h : Keyd es) : (imageM es).Perm (rowsE es) := by
  refine (List.perm_ext_iff_of_nodup (sortR_image h).nodup ?_).2 fun r => ?_
  · unfold rowsE
    refine List.Pairwise.map _ (R := fun a b : Rec × Ob => (recS a.1 0).data.toList ≠ (recS b.1 0).data.toList) (fun a b hab he => hab ?_) ?_
    · injection he with h1 _
      injection h1 with h1
      rw [h1]
    · exact List.pairwise_map.1 (keyL_nodup h)
  · rw [mem_image h]
    unfold rowsE
    rw [List.mem_map]
    constructor
    · rintro ⟨s, hs, rfl⟩
      refine ⟨_, hasE_mem hs, rfl⟩
    · rintro ⟨e, he, rfl⟩
      obtain ⟨s, hs⟩ := h.keys e he
      refine ⟨s, hasE_iff.2 (hs ▸ List.mem_map.2 ⟨e, he, rfl⟩), ?_⟩
      have := obE_in h.nodup e he
      unfold rowE7
      rw [← hs, this]
      rw [hs]
      rfl
theorem sum_perm {l l' : List Int} (h : l.Perm l') : l.sum = l'.sum := by
  induction h with
  | nil => rfl
  | cons a _ ih => rw [List.sum_cons, List.sum_cons, ih]
  | swap a b l => simp only [List.sum_cons]; omega
  | trans _ _ ih1 ih2 => exact ih1.trans ih2
theorem safe_image {es : List (Rec × Ob)} (h : Keyd es) : safeF (imageM es) = safeSum none es := by
  unfold safeF safeSum
  rw [sum_perm ((rows_perm h).map fun r => recI r 2)]
  unfold rowsE
  rw [List.map_map]
  rfl
def wi2 (s : ByteArray) (l : List Int) (n : Int) : List Rec → List Rec
  | [] => [[Fd.s s, Fd.w l, Fd.i n]]
  | r :: rs => if strLt (recS r 0) s = true then canonR r :: wi2 s l n rs else [Fd.s s, Fd.w l, Fd.i n] :: ((r :: rs).filter fun r => !decide (recS r 0 = s)).map canonR
theorem wi_done (s : ByteArray) (l : List Int) (n : Int) : ∀ (rs out : List Rec), rs.foldl (wiS s l n) (out, true) = (out ++ (rs.filter fun r => !decide (recS r 0 = s)).map canonR, true)
  | [], out => by simp
  | r :: rs, out => by
    rw [List.foldl_cons]
    have h1 : wiS s l n (out, true) r = (if recS r 0 = s then out else out ++ [canonR r], true) := by unfold wiS; rw [if_neg (by simp)]
    rw [h1, wi_done s l n rs]
    by_cases h : recS r 0 = s
    · rw [if_pos h, List.filter_cons_of_neg (by simp [h])]
    · rw [if_neg h, List.filter_cons_of_pos (by simp [h]), List.map_cons, List.append_assoc]
      rfl
theorem wi_go (s : ByteArray) (l : List Int) (n : Int) : ∀ (rs out : List Rec), (if (rs.foldl (wiS s l n) (out, false)).2 = true then (rs.foldl (wiS s l n) (out, false)).1 else (rs.foldl (wiS s l n) (out, false)).1 ++ [[Fd.s s, Fd.w l, Fd.i n]]) = out ++ wi2 s l n rs
  | [], out => by simp [wi2]
  | r :: rs, out => by
    rw [List.foldl_cons]
    cases hlt : strLt (recS r 0) s
    · have e2 : wi2 s l n (r :: rs) = [Fd.s s, Fd.w l, Fd.i n] :: ((r :: rs).filter fun r => !decide (recS r 0 = s)).map canonR := by
        rw [wi2, if_neg (by simp [hlt])]
      rw [e2]
      by_cases h : recS r 0 = s
      · have h1 : wiS s l n (out, false) r = (out ++ [[Fd.s s, Fd.w l, Fd.i n]], true) := by unfold wiS; rw [if_pos ⟨rfl, hlt⟩, if_pos h]
        rw [h1, wi_done, if_pos rfl, List.filter_cons_of_neg (by simp [h]), List.append_assoc]
        rfl
      · have h1 : wiS s l n (out, false) r = ((out ++ [[Fd.s s, Fd.w l, Fd.i n]]) ++ [canonR r], true) := by unfold wiS; rw [if_pos ⟨rfl, hlt⟩, if_neg h]
        rw [h1, wi_done, if_pos rfl, List.filter_cons_of_pos (by simp [h]), List.append_assoc, List.append_assoc]
        rfl
    · have hne : recS r 0 ≠ s := fun e => by rw [e] at hlt; exact strLt_irr hlt
      have h1 : wiS s l n (out, false) r = (out ++ [canonR r], false) := by unfold wiS; rw [if_neg (by simp [hlt]), if_neg hne]
      rw [h1, wi_go s l n rs, wi2, if_pos hlt, List.append_assoc]
      rfl
theorem wi_eq (ll : List Rec) (s : ByteArray) (l : List Int) (n : Int) : wiF ll s l n = wi2 s l n ll := by
  have := wi_go s l n ll []
  rw [List.nil_append] at this
  exact this
theorem mem_wi2 {s : ByteArray} {l : List Int} {n : Int} {r : Rec} : ∀ {rs : List Rec}, r ∈ wi2 s l n rs ↔ (r = [Fd.s s, Fd.w l, Fd.i n] ∨ ∃ q ∈ rs, recS q 0 ≠ s ∧ r = canonR q)
  | [] => by simp [wi2]
  | q :: rs => by
    cases hlt : strLt (recS q 0) s
    · rw [wi2, if_neg (by simp [hlt]), List.mem_cons, List.mem_map]
      refine or_congr_right ?_
      constructor
      · rintro ⟨x, hx, rfl⟩
        obtain ⟨h1, h2⟩ := List.mem_filter.1 hx
        exact ⟨x, h1, by simpa using h2, rfl⟩
      · rintro ⟨x, hx, hn, rfl⟩
        exact ⟨x, List.mem_filter.2 ⟨hx, by simpa using hn⟩, rfl⟩
    · have hne : recS q 0 ≠ s := fun e => by rw [e] at hlt; exact strLt_irr hlt
      rw [wi2, if_pos hlt, List.mem_cons, mem_wi2 (rs := rs)]
      constructor
      · rintro (h | h | ⟨x, hx, h⟩)
        · exact Or.inr ⟨q, List.mem_cons_self .., hne, h⟩
        · exact Or.inl h
        · exact Or.inr ⟨x, List.mem_cons_of_mem _ hx, h⟩
      · rintro (h | ⟨x, hx, h1, h2⟩)
        · exact Or.inr (Or.inl h)
        · rcases List.mem_cons.1 hx with hx | hx
          · exact Or.inl (hx ▸ h2)
          · exact Or.inr (Or.inr ⟨x, hx, h1, h2⟩)
theorem sort_filter {rs : List Rec} (h : SortR rs) (s : ByteArray) : SortR ((rs.filter fun r => !decide (recS r 0 = s)).map canonR) := by
  unfold SortR
  rw [List.pairwise_map]
  exact List.Pairwise.sublist List.filter_sublist h
theorem sort_wi2 {s : ByteArray} {l : List Int} {n : Int} : ∀ {rs : List Rec}, SortR rs → SortR (wi2 s l n rs)
  | [], _ => List.pairwise_singleton ..
  | q :: rs, h => by
    obtain ⟨h1, h2⟩ := List.pairwise_cons.1 h
    cases hlt : strLt (recS q 0) s
    · rw [wi2, if_neg (by simp [hlt])]
      refine List.pairwise_cons.2 ⟨fun r hr => ?_, sort_filter h s⟩
      obtain ⟨x, hx, rfl⟩ := List.mem_map.1 hr
      obtain ⟨h3, h4⟩ := List.mem_filter.1 hx
      have h4 : recS x 0 ≠ s := by simpa using h4
      refine strLt_tot (s := recS x 0) (t := s) ?_ h4
      rcases List.mem_cons.1 h3 with h3 | h3
      · rw [h3]; exact hlt
      · cases hx' : strLt (recS x 0) s
        · rfl
        · rw [strLt_trans (h1 x h3) hx'] at hlt
          cases hlt
    · rw [wi2, if_pos hlt]
      refine List.pairwise_cons.2 ⟨fun r hr => ?_, sort_wi2 h2⟩
      rcases mem_wi2.1 hr with hr | ⟨x, hx, _, hr⟩
      · rw [hr]; exact hlt
      · rw [hr]; exact h1 x hx
theorem with_image {es : List (Rec × Ob)} (h : Keyd es) (s : ByteArray) (l : List Int) (n : Int) : wiF (imageM es) s l n = imageM (setE es [Fd.s s] (fileOb l n)) := by
  rw [wi_eq]
  refine sortR_eq (sort_wi2 (sortR_image h)) (sortR_image (h.set s _)) fun r => ?_
  rw [mem_wi2, mem_image (h.set s _)]
  constructor
  · rintro (h1 | ⟨q, hq, hn, h1⟩)
    · refine ⟨s, by rw [hasE_set]; simp, ?_⟩
      unfold rowE7
      rw [obE_set, if_pos rfl]
      exact h1
    · obtain ⟨t, ht, rfl⟩ := (mem_image h).1 hq
      have hn : t ≠ s := hn
      have hne : ([Fd.s t] : Rec) ≠ [Fd.s s] := fun e => hn (by cases e; rfl)
      refine ⟨t, by rw [hasE_set, ht, Bool.or_true], ?_⟩
      unfold rowE7
      rw [obE_set, if_neg hne]
      exact h1
  · rintro ⟨t, ht, rfl⟩
    by_cases hts : t = s
    · subst hts
      left
      unfold rowE7
      rw [obE_set, if_pos rfl]
      rfl
    · have hne : ([Fd.s t] : Rec) ≠ [Fd.s s] := fun e => hts (by cases e; rfl)
      right
      rw [hasE_set, decide_eq_false hne, Bool.false_or] at ht
      refine ⟨rowE7 es t, (mem_image h).2 ⟨t, ht, rfl⟩, hts, ?_⟩
      unfold rowE7
      rw [obE_set, if_neg hne]
      rfl
theorem without_image {es : List (Rec × Ob)} (h : Keyd es) (s : ByteArray) : woF (imageM es) s = imageM (delE es [Fd.s s]) := by
  refine sortR_eq (sort_filter (sortR_image h) s) (sortR_image (h.del _)) fun r => ?_
  rw [mem_image (h.del _)]
  unfold woF
  rw [List.mem_map]
  constructor
  · rintro ⟨q, hq, rfl⟩
    obtain ⟨h1, h2⟩ := List.mem_filter.1 hq
    obtain ⟨t, ht, rfl⟩ := (mem_image h).1 h1
    have hn : t ≠ s := fun e => by rw [show recS (rowE7 es t) 0 = t from rfl, decide_eq_true e] at h2; cases h2
    have hne : ([Fd.s t] : Rec) ≠ [Fd.s s] := fun e => hn (by cases e; rfl)
    refine ⟨t, by rw [hasE_del h.nodup, ht, decide_eq_false hne]; rfl, ?_⟩
    unfold rowE7
    rw [obE_del hne]
    rfl
  · rintro ⟨t, ht, rfl⟩
    rw [hasE_del h.nodup, Bool.and_eq_true] at ht
    have hne : ([Fd.s t] : Rec) ≠ [Fd.s s] := by simpa using ht.2
    have hts : t ≠ s := fun e => hne (by rw [e])
    refine ⟨rowE7 es t, List.mem_filter.2 ⟨(mem_image h).2 ⟨t, ht.1, rfl⟩, by rw [show recS (rowE7 es t) 0 = t from rfl, decide_eq_false hts]; rfl⟩, ?_⟩
    unfold rowE7
    rw [obE_del hne]
    rfl
theorem set_image {es : List (Rec × Ob)} (h : Keyd es) {k : Nat} {s : ByteArray} (hk : k < (sortK es).length) (hs : (sortK es).getD k [] = [Fd.s s]) (l : List Int) (n : Int) :
    imageM (setE es [Fd.s s] (fileOb l n)) = (imageM es).set k [Fd.s s, Fd.w l, Fd.i n] := by
  have hs' : (sortK es)[k] = [Fd.s s] := by rw [List.getD_eq_getElem?_getD, List.getElem?_eq_getElem hk] at hs; exact hs
  have hh : hasE es [Fd.s s] = true := hasE_iff.2 ((sortK_mem h.keys).1 (hs' ▸ List.getElem_mem hk))
  have hsk : sortK (setE es [Fd.s s] (fileOb l n)) = sortK es := sortK_keys (setE_keys hh)
  have hnd : (sortK es).Nodup := by
    have := (sortR_image h).nodup
    unfold imageM at this
    exact List.Pairwise.imp (fun {a b} hab e => hab (by rw [e])) (List.pairwise_map.1 this)
  unfold imageM
  rw [hsk]
  apply List.ext_getElem
  · simp
  · intro i h1 h2
    have hi : i < (sortK es).length := by simpa using h1
    rw [List.getElem_map, List.getElem_set]
    by_cases hik : k = i
    · subst hik
      rw [if_pos rfl, hs']
      unfold fileR
      show [Fd.s s, Fd.w (obD (obE (setE es [Fd.s s] (fileOb l n)) [Fd.s s])), Fd.i (obS (obE (setE es [Fd.s s] (fileOb l n)) [Fd.s s]))] = _
      rw [obE_set, if_pos rfl]
      rfl
    · rw [if_neg hik, List.getElem_map]
      have hm : (sortK es)[i] ∈ sortK es := List.getElem_mem hi
      obtain ⟨e, he, hee⟩ := List.mem_map.1 ((sortK_mem h.keys).1 hm)
      obtain ⟨t, ht⟩ := h.keys e he
      have hit : (sortK es)[i] = [Fd.s t] := by rw [← hee, ht]
      have hne : ([Fd.s t] : Rec) ≠ [Fd.s s] := by
        rw [← hit, ← hs']
        intro e
        exact hik ((List.getElem_inj hnd).1 e).symm
      rw [hit]
      unfold fileR
      show [Fd.s t, Fd.w (obD (obE (setE es [Fd.s s] (fileOb l n)) [Fd.s t])), Fd.i (obS (obE (setE es [Fd.s s] (fileOb l n)) [Fd.s t]))] = _
      rw [obE_set, if_neg hne]
      rfl
theorem doc_image {d : DkT} (h : Okd d) : Doc7 (imageM d.2.2.2.2) d.1 := by
  refine ⟨by rw [image_len]; exact h.len, fun r hr => ?_, h.room, by rw [safe_image h.keyd]; exact h.free⟩
  obtain ⟨s, _, rfl⟩ := (mem_image h.keyd).1 hr
  have := h.ob [Fd.s s]
  exact ⟨rfl, this.1, this.2.1, this.2.2⟩
end Go.Num
namespace Go.Num
open Go.Abs Go.Proofs Go.Shelf Go.RowKit
theorem moGo_err : ∀ (ll : List Rec) (es : List (Rec × Ob)), (moGo ll es).1 ≠ 0 → ∃ k, k < ll.length ∧ (∀ j, j < k → moErr ((ll.take j).foldl moPut es) (ll.getD j []) = 0) ∧ moErr ((ll.take k).foldl moPut es) (ll.getD k []) ≠ 0 ∧
    moGo ll es = (moErr ((ll.take k).foldl moPut es) (ll.getD k []), (ll.take k).foldl moPut es)
  | [], es, h => (h rfl).elim
  | r :: rs, es, hn => by
    by_cases h : moErr es r = 0
    · have hg : moGo (r :: rs) es = moGo rs (moPut es r) := by
        show (if moErr es r ≠ 0 then _ else _) = _
        rw [if_neg (by simp [h])]
      rw [hg] at hn ⊢
      obtain ⟨k, h1, h2, h3, h4⟩ := moGo_err rs (moPut es r) hn
      refine ⟨k + 1, by simpa using h1, fun j hj => ?_, by simpa using h3, by rw [h4]; simp⟩
      cases j with
      | zero => simpa using h
      | succ j => simpa using h2 j (by omega)
    · refine ⟨0, by simp, fun j hj => by omega, by simpa using h, ?_⟩
      show (if moErr es r ≠ 0 then _ else _ : Int × List (Rec × Ob)) = _
      rw [if_pos h]
      rfl
theorem row7_mid {es : List (Rec × Ob)} {k : Nat} (h : Mid es k) (hk : k ≤ 1000) : Row7 (imageM es) := by
  refine ⟨by rw [image_len, h.len]; exact hk, fun r hr => ?_⟩
  obtain ⟨s, hs, rfl⟩ := (mem_image h.keyd).1 hr
  obtain ⟨l, n, h1, h2, h3, h4⟩ := h.obs _ (hasE_mem hs)
  have h1 : obE es [Fd.s s] = fileOb l n := h1
  show 0 ≤ obS (obE es [Fd.s s]) ∧ obS (obE es [Fd.s s]) ≤ _ ∧ (obD (obE es [Fd.s s])).length ≤ _
  rw [h1]
  show 0 ≤ n ∧ n ≤ _ ∧ l.length ≤ _
  omega
def m7Rd : List (BoxSt DF.τ) → List (A0 DF.τ) → Option (Int × List Rec)
  | [], [.one (.int .i64 _ n), .one p] => (prsOf p).map (n, ·)
  | _, _ => none
theorem m7Rd_nil {bs : List (BoxSt DF.τ)} {xs : List (A0 DF.τ)} {t : Int × List Rec} (h : m7Rd bs xs = some t) : bs = [] := by
  unfold m7Rd at h
  split at h
  · rfl
  · cases h
theorem image_nil : imageM [] = [] := by unfold imageM; rw [sortK_nil]; rfl
def m7Rows (ll : List Rec) : List Rec := if 32 < ll.length then [] else imageM (moGo ll []).2
noncomputable def mount7R := mkF DF Try.f27.ntmps m7Rd (fun t => ([], [.one (.int .i64 false t.1), .one (.prs fSh t.2)])) (fun t => some (.tup [dV7 (m7Rows t.2) (clampR t.1) 0 0 false, .one (.int .i64 false (mountE t.1 t.2))], [], [FilesOK t.2]))
theorem m7_at {ll : List Rec} {k : Nat} (hk : k < ll.length) : ll.getD k [] = ll[k] := by rw [List.getD_eq_getElem?_getD, List.getElem?_eq_getElem hk]; rfl
theorem mo7_steps {ll : List Rec} (hf : FilesOK ll) (h32 : ll.length ≤ 32) (ro : Int) {k : Nat} (hk : k ≤ ll.length) (h : ∀ j, j < k → moErr ((ll.take j).foldl moPut []) (ll.getD j []) = 0) : ∀ j, j < k →
    ∃ fuel nid ds ps, stepPs Try.prog DF gM7 fuel (bodyN Try.f27 0) nid (mo7Sn ll (imageM ((ll.take j).foldl moPut [])) ro (j : Nat)).st ds .normal (mo7Sn ll (imageM ((ll.take (j + 1)).foldl moPut [])) ro ((j + 1 : Nat) : Int)) = some ps ∧ AllQ ps := by
  intro j hj
  have hlt : j < ll.length := by omega
  have e1 := m7_at hlt
  have e2 : (ll.take (j + 1)).foldl moPut [] = moPut ((ll.take j).foldl moPut []) (ll.getD j []) := by
    rw [List.take_add_one, List.getElem?_eq_getElem hlt, List.foldl_append, e1]
    rfl
  obtain ⟨q1, q2⟩ := hf ll[j] (List.getElem_mem hlt)
  rw [← e1] at q1 q2
  obtain ⟨h1, h2, h3, h4⟩ := moErr_0 (h j hj)
  have hm := mid_go hf hk h j (by omega)
  have hl := image_len ((ll.take j).foldl moPut [])
  rw [hm.len] at hl
  rw [e2]
  exact ⟨_, _, _, mo7_step ll _ ro _ j _ (decide_eq_true (by omega)) (by omega) (by omega) h1 q1 (by omega) (decide_eq_false (by have := (at_image hm.keyd (recS (ll.getD j []) 0)).2 h2; rw [Int.toNat_natCast]; omega)) (decide_eq_false (Int.not_lt.2 h3)) (decide_eq_false (Int.not_lt.2 h4)) (Nat.le_trans q2 (by decide)) ⟨by omega, by omega⟩ rfl (with_image hm.keyd _ _ _)⟩
theorem mo7_loop {ll : List Rec} (hf : FilesOK ll) (h32 : ll.length ≤ 32) (ro : Int) (h : (moGo ll []).1 = 0) :
    SumOK Try.prog DF (bodyN Try.f27 0) (loopL DF (mo7Sn ll [] ro (0 : Nat)) (.exit 0) (mo7End (imageM (moGo ll []).2) ro)) ∧ Mid (moGo ll []).2 ll.length := by
  obtain ⟨k, h1, h2, h3⟩ := moGo_cut ll []
  rcases h3 with ⟨q1, q2⟩ | ⟨q1, q2, q3⟩
  · subst q1
    rw [q2]
    have ht : (ll.take ll.length).foldl moPut [] = ll.foldl moPut [] := by rw [List.take_length]
    refine ⟨?_, ?_⟩
    · have := sum_loop gM7_ok mixed (c := bodyN Try.f27 0) (fun j => mo7Sn ll (imageM ((ll.take j).foldl moPut [])) ro j) ll.length (e := .exit 0) (s := mo7End (imageM (ll.foldl moPut [])) ro) rfl (fun j hj => mo7_steps hf h32 ro h1 h2 j hj) (by
        rw [ht]
        exact ⟨_, _, _, mo7_exit ll _ ro _ (decide_eq_false (by omega))⟩)
      rw [List.take_zero, show List.foldl moPut ([] : List (Rec × Ob)) [] = [] from rfl, image_nil] at this
      exact this
    · have := mid_go hf h1 h2 ll.length (Nat.le_refl _)
      rw [ht] at this
      exact this
  · rw [h] at q3
    exact (q2 q3.symm).elim
theorem mo7_loopB {ll : List Rec} (hf : FilesOK ll) (h32 : ll.length ≤ 32) (ro : Int) (h : (moGo ll []).1 ≠ 0) :
    SumOK Try.prog DF (bodyN Try.f27 0) (loopL DF (mo7Sn ll [] ro (0 : Nat)) .ret (mo7Bad (imageM (moGo ll []).2) ro (moGo ll []).1)) := by
  obtain ⟨k, q1, h2, q2, q3⟩ := moGo_err ll [] h
  have e1 := m7_at q1
  obtain ⟨w1, w2⟩ := hf ll[k] (List.getElem_mem q1)
  rw [← e1] at w1 w2
  have hstep := mo7_steps hf h32 ro (Nat.le_of_lt q1) h2
  have hm := mid_go hf (Nat.le_of_lt q1) h2 k (Nat.le_refl _)
  have hl := image_len ((ll.take k).foldl moPut [])
  rw [hm.len] at hl
  have hat := at_image hm.keyd (recS (ll.getD k []) 0)
  rw [q3]
  clear q3
  have hgo : ∀ s, (∃ fuel nid ds ps, stepPs Try.prog DF gM7 fuel (bodyN Try.f27 0) nid (mo7Sn ll (imageM ((ll.take k).foldl moPut [])) ro (k : Nat)).st ds .ret s = some ps ∧ AllQ ps) → SumOK Try.prog DF (bodyN Try.f27 0) (loopL DF (mo7Sn ll [] ro (0 : Nat)) .ret s) := fun s hs => by
    have := sum_loop gM7_ok mixed (c := bodyN Try.f27 0) (fun j => mo7Sn ll (imageM ((ll.take j).foldl moPut [])) ro j) k (e := .ret) rfl hstep hs
    rw [List.take_zero, show List.foldl moPut ([] : List (Rec × Ob)) [] = [] from rfl, image_nil] at this
    exact this
  refine hgo _ ?_
  unfold moErr at q2 ⊢
  by_cases c1 : rightB (recS (ll.getD k []) 0) = false
  · rw [if_pos c1]
    exact ⟨_, _, _, mo7_name ll _ ro k _ (decide_eq_true (by omega)) (by omega) (by omega) c1 w1 rfl⟩
  · rw [if_neg c1] at q2 ⊢
    have c1' : rightB (recS (ll.getD k []) 0) = true := by simpa using c1
    by_cases c2 : hasE ((ll.take k).foldl moPut []) [.s (recS (ll.getD k []) 0)] = true ∨ recI (ll.getD k []) 2 < 0 ∨ ((recW (ll.getD k []) 1).length : Int) < recI (ll.getD k []) 2
    · rw [if_pos c2]
      cases d1 : hasE ((ll.take k).foldl moPut []) [.s (recS (ll.getD k []) 0)]
      · have d1' := hat.2 d1
        by_cases d2 : recI (ll.getD k []) 2 < 0
        · exact ⟨_, _, _, mo7_neg ll _ ro k _ (decide_eq_true (by omega)) (by omega) (by omega) c1' w1 (by omega) (decide_eq_false (by rw [Int.toNat_natCast]; omega)) (decide_eq_true d2) rfl⟩
        · have d3 : ((recW (ll.getD k []) 1).length : Int) < recI (ll.getD k []) 2 := by
            rcases c2 with c | c | c
            · rw [d1] at c; cases c
            · exact (d2 c).elim
            · exact c
          exact ⟨_, _, _, mo7_more ll _ ro k _ (decide_eq_true (by omega)) (by omega) (by omega) c1' w1 (by omega) (decide_eq_false (by rw [Int.toNat_natCast]; omega)) (decide_eq_false d2) (decide_eq_true d3) rfl⟩
      · have d1' := (hat.1 d1).1
        exact ⟨_, _, _, mo7_there ll _ ro k _ (decide_eq_true (by omega)) (by omega) (by omega) c1' w1 (by omega) (decide_eq_true (by rw [Int.toNat_natCast]; omega)) rfl⟩
    · rw [if_neg c2] at q2
      exact (q2 rfl).elim
theorem mount7_ok : OpOK Try.prog DF 27 (withNew mount7R) := by
  refine opOK_mkR mixed Try.func27 (enters_of Try.func27 (by kernel_rfl) rfl) (fun bs xs t h => (m7Rd_nil h).symm) ?_
  rintro ⟨n, ll⟩ r' ns ps h hps
  simp only [Option.some.injEq, Prod.mk.injEq] at h
  obtain ⟨rfl, rfl, rfl⟩ := h
  have hf : FilesOK ll := hps (FilesOK ll) (by simp)
  show ∃ Γ fuel ds, GamOK Try.prog DF Γ ∧ ∃ qs, runO Try.prog DF Γ fuel Try.f27 ([], [.one (.int .i64 false n), .one (.prs fSh ll)]) ds _ [] = some qs ∧ AllQ qs
  unfold mountE m7Rows
  by_cases c1 : 32 < ll.length
  · rw [if_pos c1, if_pos c1]
    exact ⟨_, _, _, gM7_ok, mo7_many n _ _ ll _ (decide_eq_true (by omega)) rfl rfl rfl⟩
  rw [if_neg c1, if_neg c1]
  by_cases c2 : (moGo ll []).1 = 0
  · obtain ⟨hl, hm⟩ := mo7_loop hf (by omega) (clampR n) c2
    have hr := row7_mid hm (by omega)
    have hs := safe_image hm.keyd
    rw [if_neg (by simp [c2])]
    by_cases c3 : clampR n - safeSum none (moGo ll []).2 < 0
    · exact ⟨_, _, _, gM7_ok, mo7_full n _ _ ll _ (decide_eq_false (by omega)) hl rfl hr (decide_eq_true (by omega)) (by rw [if_pos c3])⟩
    · exact ⟨_, _, _, gM7_ok, mo7_ok n _ _ ll _ (decide_eq_false (by omega)) hl rfl hr (decide_eq_false (by omega)) (by rw [if_neg c3])⟩
  · rw [if_pos c2]
    exact ⟨_, _, _, gM7_ok, mo7_bad n _ _ ll _ (decide_eq_false (by omega)) (mo7_loopB hf (by omega) (clampR n) c2) rfl⟩
def cr7N (ke : List Int) (ro : Int) (k : Nat) (cur : List Rec) : Int := crN ke k (recW (cur.getD k []) 1) (recI (cur.getD k []) 2) (ro - safeF cur)
def cr7Step (ke : List Int) (ro : Int) (k : Nat) (cur : List Rec) : List Rec :=
  cur.set k [Fd.s (recS (cur.getD k []) 0), Fd.w (List.drop 0 (List.take (recI (cur.getD k []) 2 + cr7N ke ro k cur).toNat (recW (cur.getD k []) 1))), Fd.i (recI (cur.getD k []) 2 + cr7N ke ro k cur)]
def cr7Go (ke : List Int) (ro : Int) (ll : List Rec) : Nat → List Rec
  | 0 => ll
  | k + 1 => cr7Step ke ro k (cr7Go ke ro ll k)
theorem safeF_set (r : Rec) : ∀ (cur : List Rec) (k : Nat), k < cur.length → safeF (cur.set k r) = safeF cur - recI (cur.getD k []) 2 + recI r 2
  | [], k, h => absurd h (Nat.not_lt_zero k)
  | q :: cur, 0, _ => by
    unfold safeF
    simp only [List.set_cons_zero, List.map_cons, List.sum_cons, List.getD_cons_zero]
    omega
  | q :: cur, k + 1, h => by
    have ih := safeF_set r cur k (by simpa using h)
    unfold safeF at ih ⊢
    simp only [List.set_cons_succ, List.map_cons, List.sum_cons, List.getD_cons_succ]
    omega
theorem Doc7.at {ll : List Rec} {ro : Int} (h : Doc7 ll ro) {k : Nat} (hk : k < ll.length) : canonR (ll.getD k []) = ll.getD k [] ∧ 0 ≤ recI (ll.getD k []) 2 ∧ recI (ll.getD k []) 2 ≤ ((recW (ll.getD k []) 1).length : Int) ∧ (recW (ll.getD k []) 1).length ≤ 140737488355328 := by
  rw [m7_at hk]
  exact h.rows _ (List.getElem_mem hk)
theorem Doc7.set {cur : List Rec} {ro : Int} (h : Doc7 cur ro) {k : Nat} (hk : k < cur.length) {s : ByteArray} {l : List Int} {n : Int} (h0 : 0 ≤ n) (h1 : n ≤ (l.length : Int)) (h2 : l.length ≤ 140737488355328) (h3 : safeF cur - recI (cur.getD k []) 2 + n ≤ ro) : Doc7 (cur.set k [Fd.s s, Fd.w l, Fd.i n]) ro := by
  refine ⟨by rw [List.length_set]; exact h.len, fun r hr => ?_, h.room, by rw [safeF_set _ _ _ hk]; exact h3⟩
  rcases List.mem_or_eq_of_mem_set hr with hr | hr
  · exact h.rows r hr
  · rw [hr]
    exact ⟨rfl, h0, h1, h2⟩
theorem Doc7.n {cur : List Rec} {ro : Int} (h : Doc7 cur ro) (ke : List Int) {k : Nat} (hk : k < cur.length) : 0 ≤ cr7N ke ro k cur ∧ cr7N ke ro k cur ≤ ((recW (cur.getD k []) 1).length : Int) - recI (cur.getD k []) 2 ∧ cr7N ke ro k cur ≤ ro - safeF cur :=
  crN_le (h.at hk).2.2.1 (by have := h.free; omega)
theorem Doc7.step {cur : List Rec} {ro : Int} (h : Doc7 cur ro) (ke : List Int) {k : Nat} (hk : k < cur.length) : Doc7 (cr7Step ke ro k cur) ro ∧ (cr7Step ke ro k cur).length = cur.length := by
  obtain ⟨a1, a2, a3, a4⟩ := h.at hk
  obtain ⟨n1, n2, n3⟩ := h.n ke hk
  refine ⟨h.set hk (by omega) ?_ ?_ (by omega), by unfold cr7Step; rw [List.length_set]⟩
  · rw [List.drop_zero, List.length_take]; omega
  · rw [List.drop_zero, List.length_take]; omega
theorem ci_loop (ll : List Rec) (ro st fu : Int) (dn : Bool) (ke : List Int) {cur : List Rec} (h : Doc7 cur ro) {k : Nat} (hk : k < cur.length) (hke : ke.length * 8 ≤ 140737488355328) {s : ByteArray} {l : List Int} {m : Int} (hs : recS (cur.getD k []) 0 = s) (hl : recW (cur.getD k []) 1 = l) (hm : recI (cur.getD k []) 2 = m) :
    SumOK Try.prog DF (bodyN Try.f42 1) (loopL DF (ciSn ll ro st fu dn ke cur k s l m m) (.exit 2) (ciSn ll ro st fu dn ke (cur.set k [Fd.s s, Fd.w l, Fd.i (m + cr7N ke ro k cur)]) k s l m (m + cr7N ke ro k cur))) := by
  obtain ⟨a1, a2, a3, a4⟩ := h.at hk
  obtain ⟨n1, n2, n3⟩ := h.n ke hk
  have hr := h.room
  have hfr := h.free
  have hrs := h.row7.safe
  have hN : ∃ N : Nat, (N : Int) = cr7N ke ro k cur := ⟨(cr7N ke ro k cur).toNat, by omega⟩
  obtain ⟨N, hN⟩ := hN
  have hrow : cur.getD k [] = [Fd.s s, Fd.w l, Fd.i m] := by rw [← a1]; unfold canonR; rw [hs, hl, hm]
  have hmn : cr7N ke ro k cur = if k < ke.length then mn3 (mxF (ke.getD k 0)) ((l.length : Int) - m) (ro - safeF cur) else 0 := by unfold cr7N crN; rw [hl, hm]
  rw [hl, hm] at a3 n2
  rw [hl] at a4
  rw [hm] at a2
  have e0 : cur.set k [Fd.s s, Fd.w l, Fd.i m] = cur := by
    rw [← hrow, m7_at hk, List.set_getElem_self]
  have hset : ∀ j : Nat, j ≤ N → Doc7 (cur.set k [Fd.s s, Fd.w l, Fd.i (m + j)]) ro := fun j hj => h.set hk (by omega) (by omega) a4 (by rw [hm]; omega)
  have hsafe : ∀ j : Nat, safeF (cur.set k [Fd.s s, Fd.w l, Fd.i (m + j)]) = safeF cur + j := fun j => by
    rw [safeF_set _ _ _ hk, hm]
    show safeF cur - m + (m + j) = _
    omega
  have := sum_loop gX7_ok mixed (c := bodyN Try.f42 1) (fun j => ciSn ll ro st fu dn ke (cur.set k [Fd.s s, Fd.w l, Fd.i (m + (j : Nat))]) k s l m (m + (j : Nat))) N (e := .exit 2) (s := ciSn ll ro st fu dn ke (cur.set k [Fd.s s, Fd.w l, Fd.i (m + cr7N ke ro k cur)]) k s l m (m + cr7N ke ro k cur)) rfl (fun j hj => ?_) ?_
  · simp only [show m + ((0 : Nat) : Int) = m by omega, e0] at this
    exact this
  · have hkl : k < ke.length := by
      rcases Nat.lt_or_ge k ke.length with h | h
      · exact h
      · rw [if_neg (by omega)] at hmn
        omega
    rw [if_pos hkl] at hmn
    have hd := hset j (by omega)
    have hg : (cur.set k [Fd.s s, Fd.w l, Fd.i (m + (j : Nat))]).getD k [] = [Fd.s s, Fd.w l, Fd.i (m + (j : Nat))] := by
      rw [List.getD_eq_getElem?_getD, List.getElem?_set_self hk]; rfl
    have hlen : (cur.set k [Fd.s s, Fd.w l, Fd.i (m + (j : Nat))]).length = cur.length := List.length_set ..
    unfold mn3 mxF at hmn
    refine ⟨_, _, _, ci_step ll ro st fu dn ke _ k s l m (m + j) _ _ (decide_eq_true (by omega)) (decide_eq_true (by omega)) ⟨by omega, by omega⟩ (by omega) (by omega) (decide_eq_true ?_) hd.row7 (decide_eq_true (by rw [hsafe]; split at hmn <;> split at hmn <;> omega)) ⟨by omega, by omega⟩ (by omega) (by rw [Int.toNat_natCast]; omega) (by rw [Int.toNat_natCast, hg]; exact ⟨by show _ ≤ m + (j : Int) + 1; omega, by show m + (j : Int) + 1 ≤ _; omega⟩) (by omega) ?_⟩
    · rw [Int.toNat_natCast]
      split at hmn <;> split at hmn <;> split at hmn <;> omega
    · rw [Int.toNat_natCast, hg, List.set_set]
      show cur.set k [Fd.s s, Fd.w l, Fd.i (m + (j : Int) + 1)] = cur.set k [Fd.s s, Fd.w l, Fd.i (m + ((j + 1 : Nat) : Int))]
      rw [show m + (j : Int) + 1 = m + ((j + 1 : Nat) : Int) by omega]
  · have hd := hset N (Nat.le_refl _)
    have hsN := hsafe N
    rw [hN] at hd hsN
    simp only [hN]
    by_cases c1 : k < ke.length
    · rw [if_pos c1] at hmn
      by_cases c2 : m + cr7N ke ro k cur < (l.length : Int)
      · by_cases c3 : m + cr7N ke ro k cur - m < ke.getD k 0
        · by_cases c4 : safeF (cur.set k [Fd.s s, Fd.w l, Fd.i (m + cr7N ke ro k cur)]) < ro
          · exfalso
            unfold mn3 mxF at hmn
            rw [hsN] at c4
            split at hmn <;> split at hmn <;> split at hmn <;> omega
          · exact ⟨_, _, _, ci_e4 ll ro st fu dn ke _ k s l m _ (decide_eq_true (by omega)) (decide_eq_true c2) ⟨by omega, by omega⟩ (by omega) (by omega) (decide_eq_true (by rw [Int.toNat_natCast]; exact c3)) hd.row7 (decide_eq_false c4)⟩
        · exact ⟨_, _, _, ci_e3 ll ro st fu dn ke _ k s l m _ (decide_eq_true (by omega)) (decide_eq_true c2) ⟨by omega, by omega⟩ (by omega) (by omega) (decide_eq_false (by rw [Int.toNat_natCast]; exact c3))⟩
      · exact ⟨_, _, _, ci_e2 ll ro st fu dn ke _ k s l m _ (decide_eq_true (by omega)) (decide_eq_false c2)⟩
    · exact ⟨_, _, _, ci_e1 ll ro st fu dn ke _ k s l m _ (decide_eq_false (by omega))⟩
theorem cr7_doc {ll : List Rec} {ro : Int} (h : Doc7 ll ro) (ke : List Int) : ∀ k, k ≤ ll.length → Doc7 (cr7Go ke ro ll k) ro ∧ (cr7Go ke ro ll k).length = ll.length
  | 0, _ => ⟨h, rfl⟩
  | k + 1, hk => by
    obtain ⟨h1, h2⟩ := cr7_doc h ke k (by omega)
    obtain ⟨h3, h4⟩ := h1.step ke (k := k) (by omega)
    exact ⟨h3, h4.trans h2⟩
def x7Rd : List (BoxSt DF.τ) → List (A0 DF.τ) → Option (DTv × List Int)
  | [], [x, .one (.words .i64 ke)] => (d7Rd x).map (·, ke)
  | _, _ => none
theorem x7Rd_nil {bs : List (BoxSt DF.τ)} {xs : List (A0 DF.τ)} {t : DTv × List Int} (h : x7Rd bs xs = some t) : bs = [] := by
  unfold x7Rd at h
  split at h
  · rfl
  · cases h
noncomputable def crash7R := mkF DF Try.f42.ntmps x7Rd (fun t => ([], [d7V t.1, .one (.words .i64 t.2)])) (fun t => some (.v (dV7 (cr7Go t.2 t.1.2.1 t.1.1 t.1.1.length) t.1.2.1 t.1.2.2.1 0 false), [], [Doc7 t.1.1 t.1.2.1, t.2.length * 8 ≤ 140737488355328]))
theorem crash7_ok : OpOK Try.prog DF 42 (withNew crash7R) := by
  refine opOK_mkR mixed Try.func42 (enters_of Try.func42 (by kernel_rfl) rfl) (fun bs xs t h => (x7Rd_nil h).symm) ?_
  rintro ⟨⟨ll, ro, st, fu, dn⟩, ke⟩ r' ns ps h hps
  simp only [Option.some.injEq, Prod.mk.injEq] at h
  obtain ⟨rfl, rfl, rfl⟩ := h
  have hd : Doc7 ll ro := hps (Doc7 ll ro) (by simp)
  have hke : ke.length * 8 ≤ 140737488355328 := hps (ke.length * 8 ≤ 140737488355328) (by simp)
  have hl := hd.len
  refine ⟨_, _, _, gX7_ok, cx_run ll ro st fu dn ke _ (by omega) (by omega) ?_⟩
  refine sum_loop gX7_ok mixed (c := bodyN Try.f42 0) (fun k => cxSn ll ro st fu dn ke (cr7Go ke ro ll k) (k : Nat)) ll.length (e := .exit 0) (s := cxEnd ro st (cr7Go ke ro ll ll.length)) rfl (fun k hk => ?_) ⟨_, _, _, cx_exit ll ro st fu dn ke _ _ (decide_eq_false (by omega))⟩
  obtain ⟨h1, h2⟩ := cr7_doc hd ke k (by omega)
  have hk' : k < (cr7Go ke ro ll k).length := by omega
  obtain ⟨a1, a2, a3, a4⟩ := h1.at hk'
  obtain ⟨n1, n2, n3⟩ := h1.n ke hk'
  have hi := ci_loop ll ro st fu dn ke h1 hk' hke rfl rfl rfl
  show ∃ fuel nid ds ps, stepPs Try.prog DF gX7 fuel _ nid (cxSn ll ro st fu dn ke (cr7Go ke ro ll k) (k : Nat)).st ds .normal (cxSn ll ro st fu dn ke (cr7Step ke ro k (cr7Go ke ro ll k)) ((k + 1 : Nat) : Int)) = some ps ∧ AllQ ps
  refine ⟨_, _, _, cx_step ll ro st fu dn ke _ k _ _ _ _ _ _ _ (decide_eq_true (by omega)) (by omega) (by omega) (by rw [Int.toNat_natCast]; omega) hi (by rw [Int.toNat_natCast]) (by rw [Int.toNat_natCast]) (by rw [Int.toNat_natCast]) (by omega) (by omega) ?_ (by rw [List.length_set]; omega) (by rw [List.length_set, Int.toNat_natCast]; omega) ⟨by omega, by omega⟩ rfl ?_⟩
  · rw [List.drop_zero, List.length_take]; omega
  · rw [Int.toNat_natCast, List.set_set]
    rfl
theorem crash_image {ro : Int} {es : List (Rec × Ob)} (h : Esd ro es) (hk : Keyd es) (ke : List Int) : ∀ k, k ≤ (sortK es).length → cr7Go ke ro (imageM es) k = imageM (crGo ke (sortK es) k (ro - safeSum none es, es)).2 ∧ Keyd (crGo ke (sortK es) k (ro - safeSum none es, es)).2
  | 0, _ => ⟨rfl, hk⟩
  | k + 1, hle => by
    obtain ⟨ih, hkx⟩ := crash_image h hk ke k (by omega)
    have hI := crGo_inv h ke k (by omega)
    have hsk : sortK (crGo ke (sortK es) k (ro - safeSum none es, es)).2 = sortK es := sortK_keys hI.keys
    obtain ⟨s, hs1, hs2⟩ := sortK_at hk.keys (k := k) (by rw [← sortK_len]; omega)
    show cr7Step ke ro k (cr7Go ke ro (imageM es) k) = imageM (crStep ke (sortK es) k (crGo ke (sortK es) k (ro - safeSum none es, es))).2 ∧ Keyd (crStep ke (sortK es) k (crGo ke (sortK es) k (ro - safeSum none es, es))).2
    rw [ih]
    generalize crGo ke (sortK es) k (ro - safeSum none es, es) = x at hI hkx hsk ⊢
    have hr : recS ((sortK es).getD k []) 0 = s := by rw [hs1]; rfl
    have hat : (imageM x.2).getD k [] = rowE7 x.2 s := by
      unfold imageM
      rw [hsk, List.getD_eq_getElem?_getD, List.getElem?_map]
      rw [List.getD_eq_getElem?_getD, List.getElem?_eq_getElem (by omega), Option.getD_some] at hs1
      rw [List.getElem?_eq_getElem (by omega), hs1]
      rfl
    unfold crStep
    simp only [hr]
    refine ⟨?_, hkx.set s _⟩
    rw [set_image hkx (k := k) (by rw [hsk]; omega) (by rw [hsk]; exact hs1)]
    unfold cr7Step cr7N
    rw [hat, safe_image hkx]
    show (imageM x.2).set k [Fd.s s, Fd.w (List.drop 0 (List.take (obS (obE x.2 [Fd.s s]) + crN ke k (obD (obE x.2 [Fd.s s])) (obS (obE x.2 [Fd.s s])) (ro - safeSum none x.2)).toNat (obD (obE x.2 [Fd.s s])))), Fd.i (obS (obE x.2 [Fd.s s]) + crN ke k (obD (obE x.2 [Fd.s s])) (obS (obE x.2 [Fd.s s])) (ro - safeSum none x.2))] = _
    rw [List.drop_zero, ← hI.free]
end Go.Num
namespace Go.Num
open Go.Abs Go.Proofs Go.Shelf Go.RowKit
noncomputable def gO7 : Gam DF := [(43, .rd [false, false] why7R), (44, .rd [false, false] change7R), (42, .rd [false, false] crash7R), (40, .fn at7D), (11, .fn (copyD DF))]
theorem gO7_ok : GamOK Try.prog DF gO7 := gam_rd why7_ok (gam_rd change7_ok (gam_rd crash7_ok (gam_cons at7_ok (gam_cons (copy_ok DF) gam_nil))))
def oV7 (rs : List Rec) (ro st fu : Int) (dn : Bool) (e : Int) : AV DF.τ := .tup [dV7 rs ro st fu dn, .one (.own 0), .one (.int .i64 false e)]
theorem od_6n (ll : List Rec) (ro st fu : Int) (dn : Bool) (k : Int) (s t : ByteArray) (b : List Int) (n : Int) (ke : List Int) (rs : List Rec) (ro' st' fu' : Int) (dn' : Bool) (e : Int) (l : List Int)
 (h1 : ((k == (6 : Int)) = true))
 (h2 : ((decide (n < (0 : Int))) = true))
 (h3 : (ll = rs))
 (h4 : (ro = ro'))
 (h5 : (st = st'))
 (h6 : ((0 : Int) = fu'))
 (h7 : (dn = dn'))
 (h8 : ((0 : Int) = e))
 (h9 : (([] : List (Int)) = l)) :
 ∃ ps, runO Try.prog DF gO7 100 Try.f29 (wyIn ll ro st fu dn k s t b n ke) [.is true, .is true] (oV7 rs ro' st' fu' dn' e) [dynB l] = some ps ∧ AllQ ps := ⟨_, by kernel_rfl, qc h1 (qc h2 (qc h3 (qc h4 (qc h5 (qc h6 (qc h7 (qc h8 (qc h9 (qn)))))))))⟩
theorem od_6p (ll : List Rec) (ro st fu : Int) (dn : Bool) (k : Int) (s t : ByteArray) (b : List Int) (n : Int) (ke : List Int) (rs : List Rec) (ro' st' fu' : Int) (dn' : Bool) (e : Int) (l : List Int)
 (h1 : ((k == (6 : Int)) = true))
 (h2 : ((decide (n < (0 : Int))) = false))
 (h3 : (ll = rs))
 (h4 : (ro = ro'))
 (h5 : (st = st'))
 (h6 : (n = fu'))
 (h7 : (dn = dn'))
 (h8 : ((0 : Int) = e))
 (h9 : (([] : List (Int)) = l)) :
 ∃ ps, runO Try.prog DF gO7 100 Try.f29 (wyIn ll ro st fu dn k s t b n ke) [.is true, .is false] (oV7 rs ro' st' fu' dn' e) [dynB l] = some ps ∧ AllQ ps := ⟨_, by kernel_rfl, qc h1 (qc h2 (qc h3 (qc h4 (qc h5 (qc h6 (qc h7 (qc h8 (qc h9 (qn)))))))))⟩
theorem od_7 (ll : List Rec) (ro st fu : Int) (dn : Bool) (k : Int) (s t : ByteArray) (b : List Int) (n : Int) (ke : List Int) (rs : List Rec) (ro' st' fu' : Int) (dn' : Bool) (e : Int) (l : List Int)
 (h1 : ((k == (6 : Int)) = false))
 (h2 : ((k == (7 : Int)) = true))
 (h3 : (Doc7 ll ro))
 (h4 : (((List.length ke) * (8 : Nat)) ≤ (140737488355328 : Nat)))
 (h5 : ((cr7Go ke ro ll (List.length ll)) = rs))
 (h6 : (ro = ro'))
 (h7 : (st = st'))
 (h8 : ((0 : Int) = fu'))
 (h9 : (false = dn'))
 (h10 : ((0 : Int) = e))
 (h11 : (([] : List (Int)) = l)) :
 ∃ ps, runO Try.prog DF gO7 100 Try.f29 (wyIn ll ro st fu dn k s t b n ke) [.is false, .is true] (oV7 rs ro' st' fu' dn' e) [dynB l] = some ps ∧ AllQ ps := ⟨_, by kernel_rfl, qc h1 (qc h2 (qc (Eq.refl ll) (qc (Eq.refl ro) (qc (Eq.refl st) (qc (Eq.refl fu) (qc (Eq.refl dn) (qc (Eq.refl ke) (qc h3 (qc h4 (qc h5 (qc h6 (qc h7 (qc h8 (qc h9 (qc h10 (qc h11 (qn)))))))))))))))))⟩
theorem od_neg (ll : List Rec) (ro st fu : Int) (dn : Bool) (k : Int) (s t : ByteArray) (b : List Int) (n : Int) (ke : List Int) (rs : List Rec) (ro' st' fu' : Int) (dn' : Bool) (e : Int) (l : List Int)
 (h1 : ((k == (6 : Int)) = false))
 (h2 : ((k == (7 : Int)) = false))
 (h3 : ((decide (k < (0 : Int))) = true))
 (h4 : (ll = rs))
 (h5 : (ro = ro'))
 (h6 : (st = st'))
 (h7 : (fu = fu'))
 (h8 : (dn = dn'))
 (h9 : ((0 : Int) = e))
 (h10 : (([] : List (Int)) = l)) :
 ∃ ps, runO Try.prog DF gO7 100 Try.f29 (wyIn ll ro st fu dn k s t b n ke) [.is false, .is false, .is true] (oV7 rs ro' st' fu' dn' e) [dynB l] = some ps ∧ AllQ ps := ⟨_, by kernel_rfl, qc h1 (qc h2 (qc h3 (qc h4 (qc h5 (qc h6 (qc h7 (qc h8 (qc h9 (qc h10 (qn))))))))))⟩
theorem od_big (ll : List Rec) (ro st fu : Int) (dn : Bool) (k : Int) (s t : ByteArray) (b : List Int) (n : Int) (ke : List Int) (rs : List Rec) (ro' st' fu' : Int) (dn' : Bool) (e : Int) (l : List Int)
 (h1 : ((k == (6 : Int)) = false))
 (h2 : ((k == (7 : Int)) = false))
 (h3 : ((decide (k < (0 : Int))) = false))
 (h4 : ((decide (k > (7 : Int))) = true))
 (h5 : (ll = rs))
 (h6 : (ro = ro'))
 (h7 : (st = st'))
 (h8 : (fu = fu'))
 (h9 : (dn = dn'))
 (h10 : ((0 : Int) = e))
 (h11 : (([] : List (Int)) = l)) :
 ∃ ps, runO Try.prog DF gO7 100 Try.f29 (wyIn ll ro st fu dn k s t b n ke) [.is false, .is false, .is false, .is true] (oV7 rs ro' st' fu' dn' e) [dynB l] = some ps ∧ AllQ ps := ⟨_, by kernel_rfl, qc h1 (qc h2 (qc h3 (qc h4 (qc h5 (qc h6 (qc h7 (qc h8 (qc h9 (qc h10 (qc h11 (qn)))))))))))⟩
theorem od_e (ll : List Rec) (ro st fu : Int) (dn : Bool) (k : Int) (s t : ByteArray) (b : List Int) (n : Int) (ke : List Int) (rs : List Rec) (ro' st' fu' : Int) (dn' : Bool) (e : Int) (l : List Int)
 (h1 : ((k == (6 : Int)) = false))
 (h2 : ((k == (7 : Int)) = false))
 (h3 : ((decide (k < (0 : Int))) = false))
 (h4 : ((decide (k > (7 : Int))) = false))
 (h5 : (Row7 ll))
 (h6 : (OpOk (OpT.mk k s t b n ke)))
 (h7 : ((0 : Int) ≤ k))
 (h8 : (((why7 ll ro dn (OpT.mk k s t b n ke)) != (0 : Int)) = true))
 (h9 : (ll = rs))
 (h10 : (ro = ro'))
 (h11 : (st = st'))
 (h12 : (fu = fu'))
 (h13 : (dn = dn'))
 (h14 : ((why7 ll ro dn (OpT.mk k s t b n ke)) = e))
 (h15 : (([] : List (Int)) = l)) :
 ∃ ps, runO Try.prog DF gO7 100 Try.f29 (wyIn ll ro st fu dn k s t b n ke) [.is false, .is false, .is false, .is false, .is true] (oV7 rs ro' st' fu' dn' e) [dynB l] = some ps ∧ AllQ ps := ⟨_, by kernel_rfl, qc h1 (qc h2 (qc h3 (qc h4 (qc (Eq.refl ll) (qc (Eq.refl ro) (qc (Eq.refl st) (qc (Eq.refl fu) (qc (Eq.refl dn) (qc (Eq.refl k) (qc (Eq.refl s) (qc (Eq.refl t) (qc (Eq.refl b) (qc (Eq.refl n) (qc (Eq.refl ke) (qc h5 (qc h6 (qc h7 (qc h8 (qc h9 (qc h10 (qc h11 (qc h12 (qc h13 (qc h14 (qc h15 (qn))))))))))))))))))))))))))⟩
theorem od_5 (ll : List Rec) (ro st fu : Int) (dn : Bool) (k : Int) (s t : ByteArray) (b : List Int) (n : Int) (ke : List Int) (rs : List Rec) (ro' st' fu' : Int) (dn' : Bool) (e : Int) (l : List Int)
 (h1 : ((k == (6 : Int)) = false))
 (h2 : ((k == (7 : Int)) = false))
 (h3 : ((decide (k < (0 : Int))) = false))
 (h4 : ((decide (k > (7 : Int))) = false))
 (h5 : (Row7 ll))
 (h6 : (OpOk (OpT.mk k s t b n ke)))
 (h7 : ((0 : Int) ≤ k))
 (h8 : (((why7 ll ro dn (OpT.mk k s t b n ke)) != (0 : Int)) = false))
 (h9 : ((k == (5 : Int)) = true))
 (h10 : ((List.length ll) ≤ (1000 : Nat)))
 (h11 : ((0 : Int) ≤ (atF ll s)))
 (h12 : ((atF ll s) < (((List.length ll) : Nat) : Int)))
 (h13 : ((List.length (recW (List.getD ll (Int.toNat (atF ll s)) ([] : List (Abs.Fd))) ((0 : Nat) + (1 : Nat)))) ≤ (281474976710656 : Nat)))
 (h14 : (ll = rs))
 (h15 : (ro = ro'))
 (h16 : (st = st'))
 (h17 : (fu = fu'))
 (h18 : (dn = dn'))
 (h19 : ((0 : Int) = e))
 (h20 : ((recW (List.getD ll (Int.toNat (atF ll s)) ([] : List (Abs.Fd))) ((0 : Nat) + (1 : Nat))) = l)) :
 ∃ ps, runO Try.prog DF gO7 100 Try.f29 (wyIn ll ro st fu dn k s t b n ke) [.is false, .is false, .is false, .is false, .is false, .is true] (oV7 rs ro' st' fu' dn' e) [dynB l] = some ps ∧ AllQ ps := ⟨_, by kernel_rfl, qc h1 (qc h2 (qc h3 (qc h4 (qc (Eq.refl ll) (qc (Eq.refl ro) (qc (Eq.refl st) (qc (Eq.refl fu) (qc (Eq.refl dn) (qc (Eq.refl k) (qc (Eq.refl s) (qc (Eq.refl t) (qc (Eq.refl b) (qc (Eq.refl n) (qc (Eq.refl ke) (qc h5 (qc h6 (qc h7 (qc h8 (qc h9 (qc h10 (qc h11 (qc h12 (qc h13 (qc h14 (qc h15 (qc h16 (qc h17 (qc h18 (qc h19 (qc h20 (qn)))))))))))))))))))))))))))))))⟩
theorem od_f0 (ll : List Rec) (ro st fu : Int) (dn : Bool) (k : Int) (s t : ByteArray) (b : List Int) (n : Int) (ke : List Int) (rs : List Rec) (ro' st' fu' : Int) (dn' : Bool) (e : Int) (l : List Int)
 (h1 : ((k == (6 : Int)) = false))
 (h2 : ((k == (7 : Int)) = false))
 (h3 : ((decide (k < (0 : Int))) = false))
 (h4 : ((decide (k > (7 : Int))) = false))
 (h5 : (Row7 ll))
 (h6 : (OpOk (OpT.mk k s t b n ke)))
 (h7 : ((0 : Int) ≤ k))
 (h8 : (((why7 ll ro dn (OpT.mk k s t b n ke)) != (0 : Int)) = false))
 (h9 : ((k == (5 : Int)) = false))
 (h10 : ((fu == (1 : Int)) = true))
 (h11 : ((k == (0 : Int)) = true))
 (h12 : (((0 : Int) ≤ k) ∧ (k ≤ (4 : Int))))
 (h13 : ((why7 ll ro false (OpT.mk k s t b n ke)) = (0 : Int)))
 (h14 : ((change7 ll (OpT.mk k s t b n ke)) = rs))
 (h15 : (ro = ro'))
 (h16 : (st = st'))
 (h17 : ((0 : Int) = fu'))
 (h18 : (true = dn'))
 (h19 : ((2 : Int) = e))
 (h20 : (([] : List (Int)) = l)) :
 ∃ ps, runO Try.prog DF gO7 100 Try.f29 (wyIn ll ro st fu dn k s t b n ke) [.is false, .is false, .is false, .is false, .is false, .is false, .is true, .is true] (oV7 rs ro' st' fu' dn' e) [dynB l] = some ps ∧ AllQ ps := ⟨_, by kernel_rfl, qc h1 (qc h2 (qc h3 (qc h4 (qc (Eq.refl ll) (qc (Eq.refl ro) (qc (Eq.refl st) (qc (Eq.refl fu) (qc (Eq.refl dn) (qc (Eq.refl k) (qc (Eq.refl s) (qc (Eq.refl t) (qc (Eq.refl b) (qc (Eq.refl n) (qc (Eq.refl ke) (qc h5 (qc h6 (qc h7 (qc h8 (qc h9 (qc h10 (qc h11 (qc (Eq.refl ll) (qc (Eq.refl ro) (qc (Eq.refl st) (qc (Eq.refl fu) (qc (Eq.refl dn) (qc (Eq.refl k) (qc (Eq.refl s) (qc (Eq.refl t) (qc (Eq.refl b) (qc (Eq.refl n) (qc (Eq.refl ke) (qc h5 (qc h6 (qc h12 (qc h13 (qc h14 (qc h15 (qc h16 (qc h17 (qc h18 (qc h19 (qc h20 (qn))))))))))))))))))))))))))))))))))))))))))))⟩
theorem od_f1 (ll : List Rec) (ro st fu : Int) (dn : Bool) (k : Int) (s t : ByteArray) (b : List Int) (n : Int) (ke : List Int) (rs : List Rec) (ro' st' fu' : Int) (dn' : Bool) (e : Int) (l : List Int)
 (h1 : ((k == (6 : Int)) = false))
 (h2 : ((k == (7 : Int)) = false))
 (h3 : ((decide (k < (0 : Int))) = false))
 (h4 : ((decide (k > (7 : Int))) = false))
 (h5 : (Row7 ll))
 (h6 : (OpOk (OpT.mk k s t b n ke)))
 (h7 : ((0 : Int) ≤ k))
 (h8 : (((why7 ll ro dn (OpT.mk k s t b n ke)) != (0 : Int)) = false))
 (h9 : ((k == (5 : Int)) = false))
 (h10 : ((fu == (1 : Int)) = true))
 (h11 : ((k == (0 : Int)) = false))
 (h12 : (ll = rs))
 (h13 : (ro = ro'))
 (h14 : (st = st'))
 (h15 : ((0 : Int) = fu'))
 (h16 : (true = dn'))
 (h17 : ((2 : Int) = e))
 (h18 : (([] : List (Int)) = l)) :
 ∃ ps, runO Try.prog DF gO7 100 Try.f29 (wyIn ll ro st fu dn k s t b n ke) [.is false, .is false, .is false, .is false, .is false, .is false, .is true, .is false] (oV7 rs ro' st' fu' dn' e) [dynB l] = some ps ∧ AllQ ps := ⟨_, by kernel_rfl, qc h1 (qc h2 (qc h3 (qc h4 (qc (Eq.refl ll) (qc (Eq.refl ro) (qc (Eq.refl st) (qc (Eq.refl fu) (qc (Eq.refl dn) (qc (Eq.refl k) (qc (Eq.refl s) (qc (Eq.refl t) (qc (Eq.refl b) (qc (Eq.refl n) (qc (Eq.refl ke) (qc h5 (qc h6 (qc h7 (qc h8 (qc h9 (qc h10 (qc h11 (qc h12 (qc h13 (qc h14 (qc h15 (qc h16 (qc h17 (qc h18 (qn)))))))))))))))))))))))))))))⟩
theorem od_gt (ll : List Rec) (ro st fu : Int) (dn : Bool) (k : Int) (s t : ByteArray) (b : List Int) (n : Int) (ke : List Int) (rs : List Rec) (ro' st' fu' : Int) (dn' : Bool) (e : Int) (l : List Int)
 (h1 : ((k == (6 : Int)) = false))
 (h2 : ((k == (7 : Int)) = false))
 (h3 : ((decide (k < (0 : Int))) = false))
 (h4 : ((decide (k > (7 : Int))) = false))
 (h5 : (Row7 ll))
 (h6 : (OpOk (OpT.mk k s t b n ke)))
 (h7 : ((0 : Int) ≤ k))
 (h8 : (((why7 ll ro dn (OpT.mk k s t b n ke)) != (0 : Int)) = false))
 (h9 : ((k == (5 : Int)) = false))
 (h10 : ((fu == (1 : Int)) = false))
 (h11 : ((decide (fu > (1 : Int))) = true))
 (h12 : (InI64 (fu - (1 : Int))))
 (h13 : (InI64 (st + (1 : Int))))
 (h14 : (((0 : Int) ≤ k) ∧ (k ≤ (4 : Int))))
 (h15 : ((why7 ll ro false (OpT.mk k s t b n ke)) = (0 : Int)))
 (h16 : ((change7 ll (OpT.mk k s t b n ke)) = rs))
 (h17 : (ro = ro'))
 (h18 : ((st + (1 : Int)) = st'))
 (h19 : ((fu - (1 : Int)) = fu'))
 (h20 : (dn = dn'))
 (h21 : ((0 : Int) = e))
 (h22 : (([] : List (Int)) = l)) :
 ∃ ps, runO Try.prog DF gO7 100 Try.f29 (wyIn ll ro st fu dn k s t b n ke) [.is false, .is false, .is false, .is false, .is false, .is false, .is false, .is true] (oV7 rs ro' st' fu' dn' e) [dynB l] = some ps ∧ AllQ ps := ⟨_, by kernel_rfl, qc h1 (qc h2 (qc h3 (qc h4 (qc (Eq.refl ll) (qc (Eq.refl ro) (qc (Eq.refl st) (qc (Eq.refl fu) (qc (Eq.refl dn) (qc (Eq.refl k) (qc (Eq.refl s) (qc (Eq.refl t) (qc (Eq.refl b) (qc (Eq.refl n) (qc (Eq.refl ke) (qc h5 (qc h6 (qc h7 (qc h8 (qc h9 (qc h10 (qc h11 (qc h12 (qc h13 (qc (Eq.refl ll) (qc (Eq.refl ro) (qc (Eq.refl ((st + (1 : Int)))) (qc (Eq.refl ((fu - (1 : Int)))) (qc (Eq.refl dn) (qc (Eq.refl k) (qc (Eq.refl s) (qc (Eq.refl t) (qc (Eq.refl b) (qc (Eq.refl n) (qc (Eq.refl ke) (qc h5 (qc h6 (qc h14 (qc h15 (qc h16 (qc h17 (qc h18 (qc h19 (qc h20 (qc h21 (qc h22 (qn))))))))))))))))))))))))))))))))))))))))))))))⟩
theorem od_le (ll : List Rec) (ro st fu : Int) (dn : Bool) (k : Int) (s t : ByteArray) (b : List Int) (n : Int) (ke : List Int) (rs : List Rec) (ro' st' fu' : Int) (dn' : Bool) (e : Int) (l : List Int)
 (h1 : ((k == (6 : Int)) = false))
 (h2 : ((k == (7 : Int)) = false))
 (h3 : ((decide (k < (0 : Int))) = false))
 (h4 : ((decide (k > (7 : Int))) = false))
 (h5 : (Row7 ll))
 (h6 : (OpOk (OpT.mk k s t b n ke)))
 (h7 : ((0 : Int) ≤ k))
 (h8 : (((why7 ll ro dn (OpT.mk k s t b n ke)) != (0 : Int)) = false))
 (h9 : ((k == (5 : Int)) = false))
 (h10 : ((fu == (1 : Int)) = false))
 (h11 : ((decide (fu > (1 : Int))) = false))
 (h12 : (InI64 (st + (1 : Int))))
 (h13 : (((0 : Int) ≤ k) ∧ (k ≤ (4 : Int))))
 (h14 : ((why7 ll ro false (OpT.mk k s t b n ke)) = (0 : Int)))
 (h15 : ((change7 ll (OpT.mk k s t b n ke)) = rs))
 (h16 : (ro = ro'))
 (h17 : ((st + (1 : Int)) = st'))
 (h18 : (fu = fu'))
 (h19 : (dn = dn'))
 (h20 : ((0 : Int) = e))
 (h21 : (([] : List (Int)) = l)) :
 ∃ ps, runO Try.prog DF gO7 100 Try.f29 (wyIn ll ro st fu dn k s t b n ke) [.is false, .is false, .is false, .is false, .is false, .is false, .is false, .is false] (oV7 rs ro' st' fu' dn' e) [dynB l] = some ps ∧ AllQ ps := ⟨_, by kernel_rfl, qc h1 (qc h2 (qc h3 (qc h4 (qc (Eq.refl ll) (qc (Eq.refl ro) (qc (Eq.refl st) (qc (Eq.refl fu) (qc (Eq.refl dn) (qc (Eq.refl k) (qc (Eq.refl s) (qc (Eq.refl t) (qc (Eq.refl b) (qc (Eq.refl n) (qc (Eq.refl ke) (qc h5 (qc h6 (qc h7 (qc h8 (qc h9 (qc h10 (qc h11 (qc h12 (qc (Eq.refl ll) (qc (Eq.refl ro) (qc (Eq.refl ((st + (1 : Int)))) (qc (Eq.refl fu) (qc (Eq.refl dn) (qc (Eq.refl k) (qc (Eq.refl s) (qc (Eq.refl t) (qc (Eq.refl b) (qc (Eq.refl n) (qc (Eq.refl ke) (qc h5 (qc h6 (qc h13 (qc h14 (qc h15 (qc h16 (qc h17 (qc h18 (qc h19 (qc h20 (qc h21 (qn)))))))))))))))))))))))))))))))))))))))))))))⟩
def do7 (m : DTv) (o : OpT) : DTv × List Int × Int :=
  if o.k = 6 then ((m.1, m.2.1, m.2.2.1, (if o.n < 0 then 0 else o.n), m.2.2.2.2), [], 0)
  else if o.k = 7 then ((cr7Go o.ke m.2.1 m.1 m.1.length, m.2.1, m.2.2.1, 0, false), [], 0)
  else if o.k < 0 ∨ 7 < o.k then (m, [], 0)
  else if why7 m.1 m.2.1 m.2.2.2.2 o ≠ 0 then (m, [], why7 m.1 m.2.1 m.2.2.2.2 o)
  else if o.k = 5 then (m, recW (row7 m.1 o.s) 1, 0)
  else if m.2.2.2.1 = 1 then (((if o.k = 0 then change7 m.1 o else m.1), m.2.1, m.2.2.1, 0, true), [], 2)
  else ((change7 m.1 o, m.2.1, m.2.2.1 + 1, (if 1 < m.2.2.2.1 then m.2.2.2.1 - 1 else m.2.2.2.1), m.2.2.2.2), [], 0)
theorem why7_at {ll : List Rec} {ro : Int} {dn : Bool} {o : OpT} (h : why7 ll ro dn o = 0) : dn = false ∧ (0 < o.k → 0 ≤ atF ll o.s) := by
  unfold why7 at h
  split at h
  · cases h
  rename_i h1
  split at h
  · cases h
  split at h
  · cases h
  rename_i h3
  exact ⟨by simpa using h1, fun h4 => by rcases int_lt_or (atF ll o.s) 0 with h5 | h5; exact (h3 ⟨h4, h5⟩).elim; exact h5⟩
structure Do7OK (m : DTv) : Prop where
  doc : Doc7 m.1 m.2.1
  steps : 0 ≤ m.2.2.1 ∧ m.2.2.1 ≤ 4611686018427387904
  fuse : 0 ≤ m.2.2.2.1 ∧ m.2.2.2.1 ≤ 9223372036854775807
noncomputable def do7R := mkF DF Try.f29.ntmps wyRd wyPre (fun t => some (.tup [d7V (do7 t.1 t.2).1, .one (.own 0), .one (.int .i64 false (do7 t.1 t.2).2.2)], [dynB (do7 t.1 t.2).2.1], [Do7OK t.1, OpOk t.2]))
theorem do7_ok : OpOK Try.prog DF 29 (withNew do7R) := by
  refine opOK_mkR mixed Try.func29 (enters_of Try.func29 (by kernel_rfl) rfl) (fun bs xs t h => (wyRd_nil h).symm) ?_
  rintro ⟨⟨ll, ro, st, fu, dn⟩, ⟨k, s, t, b, n, ke⟩⟩ r' ns ps h hps
  simp only [Option.some.injEq, Prod.mk.injEq] at h
  obtain ⟨rfl, rfl, rfl⟩ := h
  obtain ⟨hd, hst, hfu⟩ : Do7OK (ll, ro, st, fu, dn) := hps (Do7OK (ll, ro, st, fu, dn)) (by simp)
  have ho : OpOk ⟨k, s, t, b, n, ke⟩ := hps (OpOk _) (by simp)
  simp only at hd hst hfu
  have hr := hd.row7
  show ∃ Γ fuel ds, GamOK Try.prog DF Γ ∧ ∃ qs, runO Try.prog DF Γ fuel Try.f29 (wyIn ll ro st fu dn k s t b n ke) ds (oV7 _ _ _ _ _ _) [dynB _] = some qs ∧ AllQ qs
  unfold do7
  by_cases c6 : k = 6
  · simp only [if_pos c6]
    by_cases c : n < 0
    · exact ⟨_, _, _, gO7_ok, od_6n ll ro st fu dn k s t b n ke _ _ _ _ _ _ _ (beq_iff_eq.2 c6) (decide_eq_true c) rfl rfl rfl (if_pos c).symm rfl rfl rfl⟩
    · exact ⟨_, _, _, gO7_ok, od_6p ll ro st fu dn k s t b n ke _ _ _ _ _ _ _ (beq_iff_eq.2 c6) (decide_eq_false c) rfl rfl rfl (if_neg c).symm rfl rfl rfl⟩
  simp only [if_neg c6]
  have d6 : (k == 6) = false := beq_eq_false_iff_ne.2 c6
  by_cases c7 : k = 7
  · simp only [if_pos c7]
    exact ⟨_, _, _, gO7_ok, od_7 ll ro st fu dn k s t b n ke _ _ _ _ _ _ _ d6 (beq_iff_eq.2 c7) hd ho.ke rfl rfl rfl rfl rfl rfl rfl⟩
  simp only [if_neg c7]
  have d7 : (k == 7) = false := beq_eq_false_iff_ne.2 c7
  by_cases c8 : k < 0
  · simp only [if_pos (show k < 0 ∨ 7 < k from Or.inl c8)]
    exact ⟨_, _, _, gO7_ok, od_neg ll ro st fu dn k s t b n ke _ _ _ _ _ _ _ d6 d7 (decide_eq_true c8) rfl rfl rfl rfl rfl rfl rfl⟩
  by_cases c9 : 7 < k
  · simp only [if_pos (show k < 0 ∨ 7 < k from Or.inr c9)]
    exact ⟨_, _, _, gO7_ok, od_big ll ro st fu dn k s t b n ke _ _ _ _ _ _ _ d6 d7 (decide_eq_false c8) (decide_eq_true c9) rfl rfl rfl rfl rfl rfl rfl⟩
  simp only [if_neg (show ¬ (k < 0 ∨ 7 < k) from fun h => h.elim c8 c9)]
  have d8 : decide (k < 0) = false := decide_eq_false c8
  have d9 : decide (k > 7) = false := decide_eq_false c9
  have hk0 : 0 ≤ k := by omega
  by_cases cw : why7 ll ro dn ⟨k, s, t, b, n, ke⟩ = 0
  · have cw' : (why7 ll ro dn ⟨k, s, t, b, n, ke⟩ != 0) = false := by rw [cw]; rfl
    obtain ⟨hdn, hat⟩ := why7_at cw
    simp only at hat
    have hw0 : why7 ll ro false ⟨k, s, t, b, n, ke⟩ = 0 := by rw [← hdn]; exact cw
    simp only [if_neg (show ¬ (why7 ll ro dn ⟨k, s, t, b, n, ke⟩ ≠ 0) from fun h => h cw)]
    by_cases c5 : k = 5
    · simp only [if_pos c5]
      have h5 := hat (by omega)
      obtain ⟨a1, a2⟩ := at_pos h5
      have hrow : (recW (row7 ll s) 1).length ≤ 140737488355328 := (hr.at _).2.2
      exact ⟨_, _, _, gO7_ok, od_5 ll ro st fu dn k s t b n ke _ _ _ _ _ _ _ d6 d7 d8 d9 hr ho hk0 cw' (beq_iff_eq.2 c5) hr.1 h5 a1 (show (recW (row7 ll s) 1).length ≤ _ by omega) rfl rfl rfl rfl rfl rfl rfl⟩
    simp only [if_neg c5]
    have d5 : (k == 5) = false := beq_eq_false_iff_ne.2 c5
    by_cases cf : fu = 1
    · simp only [if_pos cf]
      by_cases c0 : k = 0
      · simp only [if_pos c0]
        exact ⟨_, _, _, gO7_ok, od_f0 ll ro st fu dn k s t b n ke _ _ _ _ _ _ _ d6 d7 d8 d9 hr ho hk0 cw' d5 (beq_iff_eq.2 cf) (beq_iff_eq.2 c0) ⟨hk0, by omega⟩ hw0 rfl rfl rfl rfl rfl rfl rfl⟩
      · simp only [if_neg c0]
        exact ⟨_, _, _, gO7_ok, od_f1 ll ro st fu dn k s t b n ke _ _ _ _ _ _ _ d6 d7 d8 d9 hr ho hk0 cw' d5 (beq_iff_eq.2 cf) (beq_eq_false_iff_ne.2 c0) rfl rfl rfl rfl rfl rfl rfl⟩
    · simp only [if_neg cf]
      have df : (fu == 1) = false := beq_eq_false_iff_ne.2 cf
      by_cases cg : 1 < fu
      · simp only [if_pos cg]
        exact ⟨_, _, _, gO7_ok, od_gt ll ro st fu dn k s t b n ke _ _ _ _ _ _ _ d6 d7 d8 d9 hr ho hk0 cw' d5 df (decide_eq_true cg) ⟨by omega, by omega⟩ ⟨by omega, by omega⟩ ⟨hk0, by omega⟩ hw0 rfl rfl rfl rfl rfl rfl rfl⟩
      · simp only [if_neg cg]
        exact ⟨_, _, _, gO7_ok, od_le ll ro st fu dn k s t b n ke _ _ _ _ _ _ _ d6 d7 d8 d9 hr ho hk0 cw' d5 df (decide_eq_false cg) ⟨by omega, by omega⟩ ⟨hk0, by omega⟩ hw0 rfl rfl rfl rfl rfl rfl rfl⟩
  · simp only [if_pos (show why7 ll ro dn ⟨k, s, t, b, n, ke⟩ ≠ 0 from cw)]
    exact ⟨_, _, _, gO7_ok, od_e ll ro st fu dn k s t b n ke _ _ _ _ _ _ _ d6 d7 d8 d9 hr ho hk0 (by simpa using cw) rfl rfl rfl rfl rfl rfl rfl⟩
def docOf (d : DkT) : DTv := (imageM d.2.2.2.2, d.1, d.2.1, d.2.2.1, d.2.2.2.1)
theorem why_err {es : List (Rec × Ob)} (hk : Keyd es) {ro : Int} {dn : Bool} {o : OpT} (h0 : 0 ≤ o.k) (he : errF dn es o.s ≠ 0 ∧ ¬ (o.k = 0 ∧ errF dn es o.s = 41)) : why7 (imageM es) ro dn o = errF dn es o.s := by
  have hat := at_image hk o.s
  unfold errF at he ⊢
  unfold why7
  cases dn
  · rw [if_neg (show ¬ (false = true) by decide)] at he ⊢
    rw [if_neg (show ¬ (false = true) by decide)]
    cases hr : rightB o.s
    · rw [if_pos rfl, if_neg (show ¬ (false = true) by decide)]
    · rw [hr, if_pos rfl] at he
      rw [if_neg (show ¬ (true = false) by decide), if_pos (show true = true from rfl)]
      cases hh : hasE es [Fd.s o.s]
      · rw [hh, if_neg (show ¬ (false = true) by decide)] at he
        have hk1 : 0 < o.k := by
          rcases int_lt_or 0 o.k with h | h
          · exact h
          · exact (he.2 ⟨by omega, rfl⟩).elim
        rw [if_pos (show 0 < o.k ∧ atF (imageM es) o.s < 0 from ⟨hk1, hat.2 hh⟩), if_neg (show ¬ (false = true) by decide)]
      · rw [hh, if_pos rfl] at he
        exact (he.1 rfl).elim
  · rw [if_pos rfl, if_pos rfl]
theorem doM_err {d : DkT} {o : OpT} (h0 : 0 ≤ o.k ∧ o.k ≤ 5) (he : d.err o.s ≠ 0 ∧ ¬ (o.k = 0 ∧ d.err o.s = 41)) : doM d o = (d.err o.s, [], d) := by
  obtain ⟨k, s, t, b, n, ke⟩ := o
  simp only at h0 he
  have hc : k = 0 ∨ k = 1 ∨ k = 2 ∨ k = 3 ∨ k = 4 ∨ k = 5 := by omega
  rcases hc with rfl | rfl | rfl | rfl | rfl | rfl
  · show ((appendM d s b).1, [], (appendM d s b).2) = _
    unfold appendM
    rw [if_pos ⟨he.1, fun h => he.2 ⟨rfl, h⟩⟩]
  · show ((syncM d s).1, [], (syncM d s).2) = _
    unfold syncM
    rw [if_pos he.1]
  · show ((cutM d s n).1, [], (cutM d s n).2) = _
    unfold cutM
    rw [if_pos he.1]
  · show ((moveM d s t).1, [], (moveM d s t).2) = _
    unfold moveM
    rw [if_pos he.1]
  · show ((dropM d s).1, [], (dropM d s).2) = _
    unfold dropM
    rw [if_pos he.1]
  · show ((readM d s).1, (readM d s).2, d) = _
    unfold readM
    rw [if_pos he.1]
def go7 (m : DTv) (o : OpT) : DTv × List Int × Int :=
  if m.2.2.2.1 = 1 then (((if o.k = 0 then change7 m.1 o else m.1), m.2.1, m.2.2.1, 0, true), [], 2)
  else ((change7 m.1 o, m.2.1, m.2.2.1 + 1, (if 1 < m.2.2.2.1 then m.2.2.2.1 - 1 else m.2.2.2.1), m.2.2.2.2), [], 0)
theorem go7_doc0 {ro st fu : Int} {dn : Bool} {es es' : List (Rec × Ob)} {o : OpT} (h0 : o.k = 0) (hc : change7 (imageM es) o = imageM es') :
    go7 (docOf (ro, st, fu, dn, es)) o = (docOf (stp (ro, st, fu, dn, es) es'), [], if stV fu = true then 0 else 2) := by
  unfold go7 docOf stp stV stFu stSt stDn
  simp only
  rw [hc, if_pos h0]
  by_cases h : fu = 1
  · simp only [if_pos h]
    rfl
  · simp only [if_neg h]
    rfl
theorem go7_doc1 {ro st fu : Int} {dn : Bool} {es es' : List (Rec × Ob)} {o : OpT} (h0 : o.k ≠ 0) (hc : change7 (imageM es) o = imageM es') (x : Int × DkT) (hx : x = if stV fu = true then (0, stp (ro, st, fu, dn, es) es') else (2, stp (ro, st, fu, dn, es) es)) :
    go7 (docOf (ro, st, fu, dn, es)) o = (docOf x.2, [], x.1) := by
  subst hx
  unfold go7 docOf stp stV stFu stSt stDn
  simp only
  rw [hc, if_neg h0]
  by_cases h : fu = 1
  · simp only [if_pos h]
    rfl
  · simp only [if_neg h]
    rfl
theorem do7_doc {d : DkT} (h : Okd d) (o : OpT) : do7 (docOf d) o = (docOf (doM d o).2.2, (doM d o).2.1, (doM d o).1) := by
  have hk := h.keyd
  have he := h.esd
  obtain ⟨ro, st, fu, dn, es⟩ := d
  obtain ⟨k, s, t, b, n, ke⟩ := o
  simp only at hk he
  have hat := at_image hk s
  have hsf := safe_image hk
  have hln := image_len es
  by_cases c6 : k = 6
  · subst c6
    rfl
  by_cases c7 : k = 7
  · subst c7
    show ((cr7Go ke ro (imageM es) (imageM es).length, ro, st, 0, false), ([] : List Int), (0 : Int)) = ((imageM (crGo ke (sortK es) (sortK es).length (ro - safeSum none es, es)).2, ro, st, 0, false), [], 0)
    have := (crash_image he hk ke (sortK es).length (Nat.le_refl _)).1
    rw [image_len, ← sortK_len es, this]
  by_cases cr : k < 0 ∨ 7 < k
  · have h1 : doM (ro, st, fu, dn, es) ⟨k, s, t, b, n, ke⟩ = (0, [], (ro, st, fu, dn, es)) := by
      unfold doM
      simp only
      rw [if_neg (by omega), if_neg (by omega), if_neg (by omega), if_neg (by omega), if_neg (by omega), if_neg (by omega), if_neg (by omega), if_neg (by omega)]
    rw [h1]
    unfold do7
    simp only
    rw [if_neg c6, if_neg c7, if_pos cr]
  have hk0 : 0 ≤ k ∧ k ≤ 5 := by omega
  have e1 : do7 (docOf (ro, st, fu, dn, es)) ⟨k, s, t, b, n, ke⟩ = if why7 (imageM es) ro dn ⟨k, s, t, b, n, ke⟩ ≠ 0 then (docOf (ro, st, fu, dn, es), [], why7 (imageM es) ro dn ⟨k, s, t, b, n, ke⟩) else if k = 5 then (docOf (ro, st, fu, dn, es), recW (row7 (imageM es) s) 1, 0) else go7 (docOf (ro, st, fu, dn, es)) ⟨k, s, t, b, n, ke⟩ := by
    unfold do7
    simp only
    rw [if_neg c6, if_neg c7, if_neg cr]
    rfl
  rw [e1]
  clear e1
  by_cases ce : errF dn es s ≠ 0 ∧ ¬ (k = 0 ∧ errF dn es s = 41)
  · rw [why_err hk (o := ⟨k, s, t, b, n, ke⟩) hk0.1 ce, if_pos ce.1, doM_err (d := (ro, st, fu, dn, es)) (o := ⟨k, s, t, b, n, ke⟩) hk0 ce]
  have hs : dn = false ∧ rightB s = true ∧ (hasE es [Fd.s s] = true ∨ k = 0) := by
    unfold errF at ce
    cases dn
    · rw [if_neg (by decide)] at ce
      cases hr : rightB s
      · rw [hr, if_neg (by decide)] at ce
        exact (ce ⟨by decide, fun h => by have := h.2; simp at this⟩).elim
      · refine ⟨rfl, rfl, ?_⟩
        rw [hr, if_pos rfl] at ce
        cases hh : hasE es [Fd.s s]
        · right
          rw [hh, if_neg (by decide)] at ce
          rcases Decidable.em (k = 0) with h | h
          · exact h
          · exact (ce ⟨by decide, fun h' => h h'.1⟩).elim
        · exact Or.inl rfl
    · rw [if_pos rfl] at ce
      exact (ce ⟨by decide, fun h => by have := h.2; simp at this⟩).elim
  obtain ⟨hdn, hri, hha⟩ := hs
  subst hdn
  have w0 : why7 (imageM es) ro false ⟨k, s, t, b, n, ke⟩ = (if 0 < k ∧ atF (imageM es) s < 0 then 41
      else if k = 0 then (if atF (imageM es) s < 0 ∧ 32 ≤ (imageM es).length then 43 else if (0 ≤ atF (imageM es) s ∧ 4194304 < (recW (row7 (imageM es) s) 1).length + b.length) ∨ 4194304 < b.length then 18 else 0)
      else if k = 1 then (if ro < safeF (imageM es) - recI (row7 (imageM es) s) 2 + ((recW (row7 (imageM es) s) 1).length : Int) then 42 else 0)
      else if k = 2 then (if n < 0 ∨ ((recW (row7 (imageM es) s) 1).length : Int) < n then 1 else 0)
      else if k = 3 then (if rightB t = false then 40 else 0) else 0) := by
    unfold why7
    simp only
    rw [if_neg (by decide), if_neg (by rw [hri]; decide)]
  have ferr : ∀ e : Int, e ≠ 0 → why7 (imageM es) ro false ⟨k, s, t, b, n, ke⟩ = e → doM (ro, st, fu, false, es) ⟨k, s, t, b, n, ke⟩ = (e, [], (ro, st, fu, false, es)) →
      (if why7 (imageM es) ro false ⟨k, s, t, b, n, ke⟩ ≠ 0 then (docOf (ro, st, fu, false, es), ([] : List Int), why7 (imageM es) ro false ⟨k, s, t, b, n, ke⟩) else if k = 5 then (docOf (ro, st, fu, false, es), recW (row7 (imageM es) s) 1, 0) else go7 (docOf (ro, st, fu, false, es)) ⟨k, s, t, b, n, ke⟩)
        = (docOf (doM (ro, st, fu, false, es) ⟨k, s, t, b, n, ke⟩).2.2, (doM (ro, st, fu, false, es) ⟨k, s, t, b, n, ke⟩).2.1, (doM (ro, st, fu, false, es) ⟨k, s, t, b, n, ke⟩).1) := by
    intro e h1 h2 h3
    rw [h2, h3, if_pos h1]
  have fgo : ∀ x : Int × DkT, why7 (imageM es) ro false ⟨k, s, t, b, n, ke⟩ = 0 → k ≠ 5 → doM (ro, st, fu, false, es) ⟨k, s, t, b, n, ke⟩ = (x.1, [], x.2) → go7 (docOf (ro, st, fu, false, es)) ⟨k, s, t, b, n, ke⟩ = (docOf x.2, [], x.1) →
      (if why7 (imageM es) ro false ⟨k, s, t, b, n, ke⟩ ≠ 0 then (docOf (ro, st, fu, false, es), ([] : List Int), why7 (imageM es) ro false ⟨k, s, t, b, n, ke⟩) else if k = 5 then (docOf (ro, st, fu, false, es), recW (row7 (imageM es) s) 1, 0) else go7 (docOf (ro, st, fu, false, es)) ⟨k, s, t, b, n, ke⟩)
        = (docOf (doM (ro, st, fu, false, es) ⟨k, s, t, b, n, ke⟩).2.2, (doM (ro, st, fu, false, es) ⟨k, s, t, b, n, ke⟩).2.1, (doM (ro, st, fu, false, es) ⟨k, s, t, b, n, ke⟩).1) := by
    intro x h1 h2 h3 h4
    rw [h1, h3, if_neg (show ¬ ((0 : Int) ≠ 0) from fun h => h rfl), if_neg h2, h4]
  cases hh : hasE es [Fd.s s]
  · have hk00 : k = 0 := by
      rcases hha with h | h
      · rw [hh] at h; cases h
      · exact h
    subst hk00
    have a1 := hat.2 hh
    have hob := obE_none hh
    have hfD : fD (ro, st, fu, false, es) s = [] := by unfold fD; simp only; rw [hob]; rfl
    have hfS : fS (ro, st, fu, false, es) s = 0 := by unfold fS; simp only; rw [hob]; rfl
    have herr : DkT.err (ro, st, fu, false, es) s = 41 := by
      show errF false es s = 41
      unfold errF
      rw [if_neg (show ¬ (false = true) by decide), hri, if_pos rfl, hh, if_neg (show ¬ (false = true) by decide)]
    rw [if_neg (show ¬ ((0 : Int) < 0 ∧ atF (imageM es) s < 0) from fun h => by have := h.1; omega), if_pos rfl] at w0
    by_cases d1 : 32 ≤ es.length
    · refine ferr 43 (by decide) (by rw [w0, if_pos ⟨a1, by rw [hln]; exact d1⟩]) ?_
      show ((appendM (ro, st, fu, false, es) s b).1, [], (appendM (ro, st, fu, false, es) s b).2) = _
      have : appendM (ro, st, fu, false, es) s b = (43, (ro, st, fu, false, es)) := by
        unfold appendM
        rw [if_neg (fun h => h.2 herr), if_pos ⟨herr, d1⟩]
      rw [this]
    · rw [if_neg (fun h => d1 (by rw [hln] at h; exact h.2))] at w0
      by_cases d2 : 4194304 < b.length
      · refine ferr 18 (by decide) (by rw [w0, if_pos (Or.inr d2)]) ?_
        show ((appendM (ro, st, fu, false, es) s b).1, [], (appendM (ro, st, fu, false, es) s b).2) = _
        have : appendM (ro, st, fu, false, es) s b = (18, (ro, st, fu, false, es)) := by
          unfold appendM
          rw [if_neg (fun h => h.2 herr), if_neg (fun h => d1 h.2), if_pos (by rw [hfD, List.length_nil]; omega)]
        rw [this]
      · refine fgo _ (by rw [w0, if_neg (fun h => h.elim (fun h => by have := h.1; omega) d2)]) (by decide) rfl ?_
        have : appendM (ro, st, fu, false, es) s b = (if stV fu = true then 0 else 2, stp (ro, st, fu, false, es) (setE es [Fd.s s] (fileOb ([] ++ b) 0))) := by
          unfold appendM
          rw [if_neg (fun h => h.2 herr), if_neg (fun h => d1 h.2), if_neg (by rw [hfD, List.length_nil]; omega), hfD, hfS]
        show _ = (docOf (appendM (ro, st, fu, false, es) s b).2, [], (appendM (ro, st, fu, false, es) s b).1)
        rw [this]
        refine go7_doc0 rfl ?_
        unfold change7
        simp only
        rw [if_pos trivial, if_neg (by omega)]
        exact with_image hk s _ _
  · obtain ⟨a1, a2⟩ := hat.1 hh
    have herr : DkT.err (ro, st, fu, false, es) s = 0 := by
      show errF false es s = 0
      unfold errF
      rw [if_neg (show ¬ (false = true) by decide), hri, if_pos rfl, hh, if_pos rfl]
    have herr' : ¬ DkT.err (ro, st, fu, false, es) s ≠ 0 := fun h => h herr
    have r1 : recW (row7 (imageM es) s) 1 = fD (ro, st, fu, false, es) s := by rw [a2]; rfl
    have r2 : recI (row7 (imageM es) s) 2 = fS (ro, st, fu, false, es) s := by rw [a2]; rfl
    have r0 : recS (row7 (imageM es) s) 0 = s := by rw [a2]; rfl
    rw [if_neg (show ¬ (0 < k ∧ atF (imageM es) s < 0) from fun h => by have := h.2; omega)] at w0
    have hc : k = 0 ∨ k = 1 ∨ k = 2 ∨ k = 3 ∨ k = 4 ∨ k = 5 := by omega
    rcases hc with rfl | rfl | rfl | rfl | rfl | rfl
    · rw [if_pos rfl, if_neg (fun h => by have := h.1; omega), r1] at w0
      by_cases d2 : 4194304 < (fD (ro, st, fu, false, es) s).length + b.length
      · refine ferr 18 (by decide) (by rw [w0, if_pos (Or.inl ⟨a1, d2⟩)]) ?_
        show ((appendM (ro, st, fu, false, es) s b).1, [], (appendM (ro, st, fu, false, es) s b).2) = _
        have : appendM (ro, st, fu, false, es) s b = (18, (ro, st, fu, false, es)) := by
          unfold appendM
          rw [if_neg (fun h => h.1 herr), if_neg (fun h => by rw [herr] at h; cases h.1), if_pos d2]
        rw [this]
      · refine fgo _ (by rw [w0, if_neg (fun h => h.elim (fun h => d2 h.2) (fun h => by omega))]) (by decide) rfl ?_
        have : appendM (ro, st, fu, false, es) s b = (if stV fu = true then 0 else 2, stp (ro, st, fu, false, es) (setE es [Fd.s s] (fileOb (fD (ro, st, fu, false, es) s ++ b) (fS (ro, st, fu, false, es) s)))) := by
          unfold appendM
          rw [if_neg (fun h => h.1 herr), if_neg (fun h => by rw [herr] at h; cases h.1), if_neg d2]
        show _ = (docOf (appendM (ro, st, fu, false, es) s b).2, [], (appendM (ro, st, fu, false, es) s b).1)
        rw [this]
        refine go7_doc0 rfl ?_
        unfold change7
        simp only
        rw [if_pos trivial, if_pos a1, r0, r1, r2]
        exact with_image hk s _ _
    · rw [if_neg (show ¬ ((1 : Int) = 0) by decide), if_pos rfl, r1, r2, hsf] at w0
      by_cases d2 : ro < safeSum none es - fS (ro, st, fu, false, es) s + ((fD (ro, st, fu, false, es) s).length : Int)
      · refine ferr 42 (by decide) (by rw [w0, if_pos d2]) ?_
        show ((syncM (ro, st, fu, false, es) s).1, [], (syncM (ro, st, fu, false, es) s).2) = _
        have : syncM (ro, st, fu, false, es) s = (42, (ro, st, fu, false, es)) := by
          unfold syncM
          rw [if_neg herr', if_pos (show ro - safeSum none es < ((fD (ro, st, fu, false, es) s).length : Int) - fS (ro, st, fu, false, es) s by omega)]
        rw [this]
      · refine fgo _ (by rw [w0, if_neg d2]) (by decide) rfl ?_
        refine go7_doc1 (es' := setE es [Fd.s s] (fileOb (fD (ro, st, fu, false, es) s) (fD (ro, st, fu, false, es) s).length)) (show (1 : Int) ≠ 0 by decide) ?_ (syncM (ro, st, fu, false, es) s) ?_
        · unfold change7
          simp only
          rw [if_neg (show ¬ ((1 : Int) = 0) by decide), if_pos trivial, r0, r1]
          exact with_image hk s _ _
        · unfold syncM
          rw [if_neg herr', if_neg (show ¬ ro - safeSum none es < ((fD (ro, st, fu, false, es) s).length : Int) - fS (ro, st, fu, false, es) s by omega)]
    · rw [if_neg (show ¬ ((2 : Int) = 0) by decide), if_neg (show ¬ ((2 : Int) = 1) by decide), if_pos rfl, r1] at w0
      by_cases d2 : n < 0 ∨ ((fD (ro, st, fu, false, es) s).length : Int) < n
      · refine ferr 1 (by decide) (by rw [w0, if_pos d2]) ?_
        show ((cutM (ro, st, fu, false, es) s n).1, [], (cutM (ro, st, fu, false, es) s n).2) = _
        have : cutM (ro, st, fu, false, es) s n = (1, (ro, st, fu, false, es)) := by
          unfold cutM
          rw [if_neg herr', if_pos d2]
        rw [this]
      · refine fgo _ (by rw [w0, if_neg d2]) (by decide) rfl ?_
        refine go7_doc1 (es' := setE es [Fd.s s] (fileOb ((fD (ro, st, fu, false, es) s).take n.toNat) (if n < fS (ro, st, fu, false, es) s then n else fS (ro, st, fu, false, es) s))) (show (2 : Int) ≠ 0 by decide) ?_ (cutM (ro, st, fu, false, es) s n) ?_
        · unfold change7
          simp only
          rw [if_neg (show ¬ ((2 : Int) = 0) by decide), if_neg (show ¬ ((2 : Int) = 1) by decide), if_pos trivial, r0, r1, r2, List.drop_zero]
          exact with_image hk s _ _
        · unfold cutM
          rw [if_neg herr', if_neg d2]
    · rw [if_neg (show ¬ ((3 : Int) = 0) by decide), if_neg (show ¬ ((3 : Int) = 1) by decide), if_neg (show ¬ ((3 : Int) = 2) by decide), if_pos rfl] at w0
      cases d2 : rightB t
      · refine ferr 40 (by decide) (by rw [w0, if_pos d2]) ?_
        show ((moveM (ro, st, fu, false, es) s t).1, [], (moveM (ro, st, fu, false, es) s t).2) = _
        have : moveM (ro, st, fu, false, es) s t = (40, (ro, st, fu, false, es)) := by
          unfold moveM
          rw [if_neg herr', if_pos d2]
        rw [this]
      · have d3 : ¬ rightB t = false := by rw [d2]; decide
        refine fgo _ (by rw [w0, if_neg d3]) (by decide) rfl ?_
        refine go7_doc1 (es' := setE (delE es [Fd.s s]) [Fd.s t] (fileOb (fD (ro, st, fu, false, es) s) (fS (ro, st, fu, false, es) s))) (show (3 : Int) ≠ 0 by decide) ?_ (moveM (ro, st, fu, false, es) s t) ?_
        · unfold change7
          simp only
          rw [if_neg (show ¬ ((3 : Int) = 0) by decide), if_neg (show ¬ ((3 : Int) = 1) by decide), if_neg (show ¬ ((3 : Int) = 2) by decide), if_pos trivial, r1, r2, without_image hk]
          exact with_image (hk.del _) t _ _
        · unfold moveM
          rw [if_neg herr', if_neg d3]
    · rw [if_neg (show ¬ ((4 : Int) = 0) by decide), if_neg (show ¬ ((4 : Int) = 1) by decide), if_neg (show ¬ ((4 : Int) = 2) by decide), if_neg (show ¬ ((4 : Int) = 3) by decide)] at w0
      refine fgo _ w0 (by decide) rfl ?_
      refine go7_doc1 (es' := delE es [Fd.s s]) (show (4 : Int) ≠ 0 by decide) ?_ (dropM (ro, st, fu, false, es) s) ?_
      · unfold change7
        simp only
        rw [if_neg (show ¬ ((4 : Int) = 0) by decide), if_neg (show ¬ ((4 : Int) = 1) by decide), if_neg (show ¬ ((4 : Int) = 2) by decide), if_neg (show ¬ ((4 : Int) = 3) by decide)]
        exact without_image hk s
      · unfold dropM
        rw [if_neg herr']
    · rw [if_neg (show ¬ ((5 : Int) = 0) by decide), if_neg (show ¬ ((5 : Int) = 1) by decide), if_neg (show ¬ ((5 : Int) = 2) by decide), if_neg (show ¬ ((5 : Int) = 3) by decide)] at w0
      rw [w0, if_neg (show ¬ ((0 : Int) ≠ 0) from fun h => h rfl), if_pos rfl, r1]
      show _ = (docOf (ro, st, fu, false, es), (readM (ro, st, fu, false, es) s).2, (readM (ro, st, fu, false, es) s).1)
      have : readM (ro, st, fu, false, es) s = (0, fD (ro, st, fu, false, es) s) := by
        unfold readM
        rw [if_neg herr']
      rw [this]
end Go.Num
namespace Go.Num
open Go.Abs Go.Proofs Go.Shelf Go.RowKit
theorem rows_image {d : DkT} (h : Okd d) : RowsOK (imageM d.2.2.2.2) := by
  have hl : (imageM d.2.2.2.2).length = d.2.2.2.2.length := by unfold imageM; rw [List.length_map, sortK_len]
  refine ⟨by rw [hl]; exact Nat.le_trans h.len (by decide), fun r hr => ?_⟩
  obtain ⟨k, _, rfl⟩ := List.mem_map.1 hr
  exact (h.ob _).2.2
end Go.Num

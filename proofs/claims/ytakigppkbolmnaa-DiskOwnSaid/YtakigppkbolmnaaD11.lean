/- Disk: Crash and Mount: the contracts; disks stay as they should be. -/
import Derived.Test.YtakigppkbolmnaaD10
namespace Go.Num
open Go.Abs Go.Proofs Go.Shelf Go.RowKit

/-! Sums -/

theorem safeSum_cons (x : Rec) (o : Ob) (es : List (Rec × Ob)) : safeSum none ((x, o) :: es) = obS o + safeSum none es := by
  unfold safeSum
  rw [List.map_cons, List.sum_cons]
  rfl
theorem safeSum_nil : safeSum none [] = 0 := rfl

theorem safeSum_set {es : List (Rec × Ob)} {k : Rec} {o : Ob} (h : hasE es k = true) : safeSum none (setE es k o) = safeSum none es - obS (obE es k) + obS o := by
  induction es with
  | nil => cases h
  | cons e es ih =>
    obtain ⟨x, p⟩ := e
    by_cases hx : x = k
    · subst hx
      rw [setE, if_pos rfl, safeSum_cons, safeSum_cons]
      have : obE ((x, p) :: es) x = p := by simp [obE, getE]
      rw [this]
      omega
    · have h1 : hasE es k = true := by simpa [hasE, getE, hx] using h
      have h2 : obE ((x, p) :: es) k = obE es k := by simp [obE, getE, hx]
      rw [setE, if_neg hx, safeSum_cons, safeSum_cons, ih h1, h2]
      omega

theorem safeSum_new {es : List (Rec × Ob)} {k : Rec} {o : Ob} (h : hasE es k = false) : safeSum none (setE es k o) = safeSum none es + obS o := by
  rw [setE_keysN h]
  unfold safeSum
  rw [List.map_append, List.sum_append]
  show _ + (obS o + 0) = _
  omega

theorem safeSum_put {es : List (Rec × Ob)} {k : Rec} {o : Ob} : safeSum none (setE es k o) = safeSum none es - obS (obE es k) + obS o := by
  cases h : hasE es k
  · rw [safeSum_new h, obE_none h]
    show _ = _ - 0 + _
    omega
  · exact safeSum_set h

theorem delE_mem {es : List (Rec × Ob)} {k : Rec} {e : Rec × Ob} (h : e ∈ delE es k) : e ∈ es := by
  induction es with
  | nil => cases h
  | cons f es ih =>
    obtain ⟨x, p⟩ := f
    by_cases hx : x = k
    · rw [delE, if_pos hx] at h
      exact List.mem_cons_of_mem _ h
    · rw [delE, if_neg hx] at h
      rcases List.mem_cons.1 h with h | h
      · rw [h]; exact List.mem_cons_self ..
      · exact List.mem_cons_of_mem _ (ih h)

theorem delE_nodup {es : List (Rec × Ob)} {k : Rec} (h : (es.map (·.1)).Nodup) : ((delE es k).map (·.1)).Nodup := by
  induction es with
  | nil => exact h
  | cons f es ih =>
    obtain ⟨x, p⟩ := f
    simp only [List.map_cons, List.nodup_cons] at h
    by_cases hx : x = k
    · rw [delE, if_pos hx]
      exact h.2
    · rw [delE, if_neg hx]
      simp only [List.map_cons, List.nodup_cons]
      refine ⟨fun hm => h.1 ?_, ih h.2⟩
      obtain ⟨e, he, hee⟩ := List.mem_map.1 hm
      exact List.mem_map.2 ⟨e, delE_mem he, hee⟩

theorem delE_len {es : List (Rec × Ob)} {k : Rec} (h : hasE es k = true) : (delE es k).length + 1 = es.length := by
  induction es with
  | nil => cases h
  | cons f es ih =>
    obtain ⟨x, p⟩ := f
    by_cases hx : x = k
    · rw [delE, if_pos hx]; rfl
    · have h1 : hasE es k = true := by simpa [hasE, getE, hx] using h
      rw [delE, if_neg hx, List.length_cons, List.length_cons, ih h1]

theorem safeSum_del {es : List (Rec × Ob)} {k : Rec} (h : hasE es k = true) : safeSum none (delE es k) = safeSum none es - obS (obE es k) := by
  induction es with
  | nil => cases h
  | cons e es ih =>
    obtain ⟨x, p⟩ := e
    by_cases hx : x = k
    · subst hx
      rw [delE, if_pos rfl, safeSum_cons]
      have : obE ((x, p) :: es) x = p := by simp [obE, getE]
      rw [this]
      omega
    · have h1 : hasE es k = true := by simpa [hasE, getE, hx] using h
      have h2 : obE ((x, p) :: es) k = obE es k := by simp [obE, getE, hx]
      rw [delE, if_neg hx, safeSum_cons, safeSum_cons, ih h1, h2]
      omega

theorem hasE_del {es : List (Rec × Ob)} {k j : Rec} (hn : (es.map (·.1)).Nodup) : hasE (delE es k) j = (hasE es j && !decide (j = k)) := by
  induction es with
  | nil => simp [delE, hasE, getE]
  | cons e es ih =>
    obtain ⟨x, p⟩ := e
    simp only [List.map_cons, List.nodup_cons] at hn
    by_cases hx : x = k
    · subst hx
      rw [delE, if_pos rfl]
      by_cases hj : j = x
      · subst hj
        have : hasE es j = false := by
          cases h : hasE es j
          · rfl
          · exact (hn.1 (hasE_iff.1 h)).elim
        simp [this]
      · have : hasE ((x, p) :: es) j = hasE es j := by simp [hasE, getE, Ne.symm hj]
        simp [this, hj]
    · rw [delE, if_neg hx]
      by_cases hj : j = x
      · subst hj
        simp [hasE, getE, hx]
      · have h1 : hasE ((x, p) :: es) j = hasE es j := by simp [hasE, getE, Ne.symm hj]
        have h2 : hasE ((x, p) :: delE es k) j = hasE (delE es k) j := by simp [hasE, getE, Ne.symm hj]
        rw [h1, h2, ih hn.2]

theorem hasE_set {es : List (Rec × Ob)} {k j : Rec} {o : Ob} : hasE (setE es k o) j = (decide (j = k) || hasE es j) := by
  induction es with
  | nil =>
    by_cases hj : j = k
    · simp [setE, hasE, getE, hj]
    · simp [setE, hasE, getE, hj, Ne.symm hj]
  | cons e es ih =>
    obtain ⟨x, p⟩ := e
    by_cases hx : x = k
    · subst hx
      rw [setE, if_pos rfl]
      by_cases hj : j = x
      · simp [hasE, getE, hj]
      · simp [hasE, getE, hj, Ne.symm hj]
    · rw [setE, if_neg hx]
      by_cases hj : j = x
      · simp [hasE, getE, hj]
      · have h1 : hasE ((x, p) :: es) j = hasE es j := by simp [hasE, getE, Ne.symm hj]
        have h2 : hasE ((x, p) :: setE es k o) j = hasE (setE es k o) j := by simp [hasE, getE, Ne.symm hj]
        rw [h1, h2, ih]

theorem obE_set {es : List (Rec × Ob)} {k j : Rec} {o : Ob} : obE (setE es k o) j = if j = k then o else obE es j := by
  induction es with
  | nil =>
    by_cases hj : j = k
    · simp [setE, obE, getE, hj]
    · simp [setE, obE, getE, hj, Ne.symm hj]
  | cons e es ih =>
    obtain ⟨x, p⟩ := e
    by_cases hx : x = k
    · subst hx
      rw [setE, if_pos rfl]
      by_cases hj : j = x
      · simp [obE, getE, hj]
      · simp [obE, getE, hj, Ne.symm hj]
    · rw [setE, if_neg hx]
      by_cases hj : j = x
      · subst hj
        simp [obE, getE, hx]
      · have h1 : obE ((x, p) :: es) j = obE es j := by simp [obE, getE, Ne.symm hj]
        have h2 : obE ((x, p) :: setE es k o) j = obE (setE es k o) j := by simp [obE, getE, Ne.symm hj]
        rw [h1, h2, ih]

theorem obE_del {es : List (Rec × Ob)} {k j : Rec} (hj : j ≠ k) : obE (delE es k) j = obE es j := by
  induction es with
  | nil => rfl
  | cons e es ih =>
    obtain ⟨x, p⟩ := e
    by_cases hx : x = k
    · subst hx
      rw [delE, if_pos rfl]
      simp [obE, getE, Ne.symm hj]
    · rw [delE, if_neg hx]
      by_cases hjx : j = x
      · simp [obE, getE, hjx]
      · have h1 : obE ((x, p) :: es) j = obE es j := by simp [obE, getE, Ne.symm hjx]
        have h2 : obE ((x, p) :: delE es k) j = obE (delE es k) j := by simp [obE, getE, Ne.symm hjx]
        rw [h1, h2, ih]

/-! Files that are put and taken away -/

/-- What is asked of the files alone. -/
structure Esd (ro : Int) (es : List (Rec × Ob)) : Prop where
  keys : ∀ e ∈ es, ∃ s, e.1 = [Fd.s s] ∧ rightB s = true
  nodup : (es.map (·.1)).Nodup
  obs : ∀ e ∈ es, ObOK e.2
  len : es.length ≤ 32
  free : safeSum none es ≤ ro

theorem Okd.esd {d : DkT} (h : Okd d) : Esd d.1 d.2.2.2.2 := ⟨h.keys, h.nodup, h.obs, h.len, h.free⟩
theorem Esd.okd {ro : Int} {es : List (Rec × Ob)} (h : Esd ro es) {st fu : Int} {dn : Bool} (hr : 0 ≤ ro ∧ ro ≤ 4194304) (hs : 0 ≤ st) (hf : 0 ≤ fu ∧ fu ≤ 9223372036854775807) : Okd (ro, st, fu, dn, es) :=
  ⟨h.keys, h.nodup, h.obs, h.len, hr, h.free, hs, hf⟩

theorem Esd.set {ro : Int} {es : List (Rec × Ob)} (h : Esd ro es) {s : ByteArray} {o : Ob} (hs : rightB s = true) (ho : ObOK o) (hl : hasE es [Fd.s s] = true ∨ es.length < 32) (hf : safeSum none es - obS (obE es [Fd.s s]) + obS o ≤ ro) : Esd ro (setE es [Fd.s s] o) := by
  refine ⟨fun e he => ?_, ?_, fun e he => ?_, ?_, by rw [safeSum_put]; exact hf⟩
  · rcases setE_mem he with rfl | he
    · exact ⟨s, rfl, hs⟩
    · exact h.keys e he
  · cases hh : hasE es [Fd.s s]
    · rw [setE_keysN hh, List.map_append, List.nodup_append]
      refine ⟨h.nodup, by simp, fun a ha b hb => ?_⟩
      simp only [List.map_cons, List.map_nil, List.mem_singleton] at hb
      subst hb
      intro e
      subst e
      rw [hasE_iff.2 ha] at hh
      cases hh
    · rw [setE_keys hh]
      exact h.nodup
  · rcases setE_mem he with rfl | he
    · exact ho
    · exact h.obs e he
  · cases hh : hasE es [Fd.s s]
    · rw [setE_keysN hh, List.length_append]
      have : es.length < 32 := by rcases hl with hl | hl; rw [hh] at hl; cases hl; exact hl
      simp
      omega
    · have : (setE es [Fd.s s] o).length = es.length := by
        have := congrArg List.length (setE_keys (o := o) hh)
        simpa using this
      rw [this]
      exact h.len

theorem Esd.ob {ro : Int} {es : List (Rec × Ob)} (h : Esd ro es) (k : Rec) : 0 ≤ obS (obE es k) ∧ obS (obE es k) ≤ ((obD (obE es k)).length : Int) ∧ (obD (obE es k)).length ≤ 140737488355328 := by
  cases hk : hasE es k
  · rw [obE_none hk]
    exact ⟨by decide, by decide, by decide⟩
  · obtain ⟨l, n, e, h1, h2, h3⟩ := h.obs _ (hasE_mem hk)
    simp only at e
    rw [e]
    exact ⟨h1, h2, h3⟩

theorem Esd.del {ro : Int} {es : List (Rec × Ob)} (h : Esd ro es) {k : Rec} (hk : hasE es k = true) : Esd ro (delE es k) ∧ (delE es k).length < 32 ∧ safeSum none (delE es k) = safeSum none es - obS (obE es k) := by
  have h1 := safeSum_del hk
  have h2 := delE_len hk
  have h3 := h.len
  have h4 := h.free
  have h5 := (h.ob k).1
  exact ⟨⟨fun e he => h.keys e (delE_mem he), delE_nodup h.nodup, fun e he => h.obs e (delE_mem he), by omega, by omega⟩, by omega, h1⟩

theorem stp_ok {d : DkT} (h : Okd d) {es : List (Rec × Ob)} (he : Esd d.1 es) : Okd (stp d es) ∧ (stp d es).2.1 ≤ d.2.1 + 1 ∧ (stp d es).1 = d.1 := by
  obtain ⟨ro, st, fu, dn, es0⟩ := d
  have h1 := h.steps
  have h2 := h.fuse
  simp only at h1 h2
  refine ⟨he.okd h.room ?_ ?_, ?_, rfl⟩
  · show 0 ≤ stSt fu st
    unfold stSt
    split <;> omega
  · show 0 ≤ stFu fu ∧ stFu fu ≤ _
    unfold stFu
    split
    · omega
    · split <;> omega
  · show stSt fu st ≤ st + 1
    unfold stSt
    split <;> omega

/-- Another disk of the same room, no more than a step on. -/
def Nxt (d d' : DkT) : Prop := Okd d' ∧ d'.2.1 ≤ d.2.1 + 1 ∧ d'.1 = d.1
theorem nxt_same {d : DkT} (h : Okd d) : Nxt d d := ⟨h, by omega, rfl⟩

theorem append_nxt {d : DkT} (h : Okd d) (s : ByteArray) (b : List Int) : Nxt d (appendM d s b).2 := by
  unfold appendM
  split
  · exact nxt_same h
  · rename_i c0
    split
    · exact nxt_same h
    · rename_i c1
      split
      · exact nxt_same h
      · rename_i c2
        have ho := h.ob [Fd.s s]
        have hf := h.free
        refine stp_ok h (h.esd.set ?_ ⟨_, _, rfl, ho.1, ?_, ?_⟩ ?_ ?_)
        · by_cases c : d.err s = 0
          · exact (errF_ok c).2.1
          · exact (errF_41 (Classical.not_not.1 (fun hh => c0 ⟨c, hh⟩))).2.1
        · rw [List.length_append]
          show obS (obE d.2.2.2.2 [Fd.s s]) ≤ (((obD (obE d.2.2.2.2 [Fd.s s])).length + b.length : Nat) : Int)
          omega
        · rw [List.length_append]
          omega
        · by_cases c : d.err s = 0
          · exact Or.inl (errF_ok c).2.2
          · have c' : d.err s = 41 := Classical.not_not.1 (fun hh => c0 ⟨c, hh⟩)
            right
            have : ¬ 32 ≤ d.es.length := fun hh => c1 ⟨c', hh⟩
            show d.2.2.2.2.length < 32
            exact Nat.lt_of_not_le this
        · show safeSum none d.2.2.2.2 - obS (obE d.2.2.2.2 [Fd.s s]) + obS (obE d.2.2.2.2 [Fd.s s]) ≤ d.1
          omega

theorem sync_nxt {d : DkT} (h : Okd d) (s : ByteArray) : Nxt d (syncM d s).2 := by
  unfold syncM
  split
  · exact nxt_same h
  · rename_i c0
    split
    · exact nxt_same h
    · rename_i c1
      split
      · have ho := h.ob [Fd.s s]
        obtain ⟨e1, e2, e3⟩ := errF_ok (Classical.not_not.1 c0)
        refine stp_ok h (h.esd.set e2 ⟨_, _, rfl, by omega, Int.le_refl _, ho.2.2⟩ (Or.inl e3) ?_)
        show safeSum none d.2.2.2.2 - obS (obE d.2.2.2.2 [Fd.s s]) + ((obD (obE d.2.2.2.2 [Fd.s s])).length : Int) ≤ d.1
        have : ¬ (d.1 - safeSum none d.2.2.2.2 < ((obD (obE d.2.2.2.2 [Fd.s s])).length : Int) - obS (obE d.2.2.2.2 [Fd.s s])) := c1
        omega
      · exact stp_ok h h.esd

theorem cut_nxt {d : DkT} (h : Okd d) (s : ByteArray) (n : Int) : Nxt d (cutM d s n).2 := by
  unfold cutM
  split
  · exact nxt_same h
  · rename_i c0
    split
    · exact nxt_same h
    · rename_i c1
      have c1' : 0 ≤ n ∧ n ≤ ((obD (obE d.2.2.2.2 [Fd.s s])).length : Int) := by
        have a : ¬ n < 0 := fun hh => c1 (Or.inl hh)
        have b : ¬ ((obD (obE d.2.2.2.2 [Fd.s s])).length : Int) < n := fun hh => c1 (Or.inr hh)
        omega
      split
      · have ho := h.ob [Fd.s s]
        have hf := h.free
        obtain ⟨e1, e2, e3⟩ := errF_ok (Classical.not_not.1 c0)
        have hl : (((obD (obE d.2.2.2.2 [Fd.s s])).take n.toNat).length : Int) = n := by rw [List.length_take]; omega
        refine stp_ok h (h.esd.set e2 ⟨_, _, rfl, ?_, ?_, ?_⟩ (Or.inl e3) ?_)
        · show 0 ≤ if n < obS (obE d.2.2.2.2 [Fd.s s]) then n else obS (obE d.2.2.2.2 [Fd.s s])
          split <;> omega
        · show (if n < obS (obE d.2.2.2.2 [Fd.s s]) then n else obS (obE d.2.2.2.2 [Fd.s s])) ≤ (((obD (obE d.2.2.2.2 [Fd.s s])).take n.toNat).length : Int)
          rw [hl]
          split <;> omega
        · show ((obD (obE d.2.2.2.2 [Fd.s s])).take n.toNat).length ≤ _
          omega
        · show safeSum none d.2.2.2.2 - obS (obE d.2.2.2.2 [Fd.s s]) + (if n < obS (obE d.2.2.2.2 [Fd.s s]) then n else obS (obE d.2.2.2.2 [Fd.s s])) ≤ d.1
          split <;> omega
      · exact stp_ok h h.esd

theorem move_nxt {d : DkT} (h : Okd d) (s t : ByteArray) : Nxt d (moveM d s t).2 := by
  unfold moveM
  split
  · exact nxt_same h
  · rename_i c0
    split
    · exact nxt_same h
    · rename_i c1
      split
      · have ho := h.ob [Fd.s s]
        have hf := h.free
        obtain ⟨e1, e2, e3⟩ := errF_ok (Classical.not_not.1 c0)
        obtain ⟨q1, q2, q3⟩ := h.esd.del e3
        refine stp_ok h (q1.set (by simpa using c1) ⟨_, _, rfl, ho.1, ho.2.1, ho.2.2⟩ (Or.inr q2) ?_)
        have := (q1.ob [Fd.s t]).1
        have q3' : safeSum none (delE d.2.2.2.2 [Fd.s s]) = safeSum none d.2.2.2.2 - obS (obE d.2.2.2.2 [Fd.s s]) := q3
        show safeSum none (delE d.2.2.2.2 [Fd.s s]) - obS (obE (delE d.2.2.2.2 [Fd.s s]) [Fd.s t]) + obS (obE d.2.2.2.2 [Fd.s s]) ≤ d.1
        have this' : 0 ≤ obS (obE (delE d.2.2.2.2 [Fd.s s]) [Fd.s t]) := this
        omega
      · exact stp_ok h h.esd

theorem drop_nxt {d : DkT} (h : Okd d) (s : ByteArray) : Nxt d (dropM d s).2 := by
  unfold dropM
  split
  · exact nxt_same h
  · rename_i c0
    split
    · obtain ⟨e1, e2, e3⟩ := errF_ok (Classical.not_not.1 c0)
      exact stp_ok h (h.esd.del e3).1
    · exact stp_ok h h.esd

theorem fuse_nxt {d : DkT} (h : Okd d) {n : Int} (hn : n ≤ 9223372036854775807) : Nxt d (fuseM d n) := by
  refine ⟨⟨h.keys, h.nodup, h.obs, h.len, h.room, h.free, h.steps, ?_⟩, by show d.2.1 ≤ d.2.1 + 1; omega, rfl⟩
  show 0 ≤ mxF n ∧ mxF n ≤ _
  unfold mxF
  split <;> omega

/-! Crash -/

def mn3 (m n o : Int) : Int := if o < (if n < m then n else m) then o else (if n < m then n else m)
/-- How many of a file's bytes are kept. -/
def crN (keep : List Int) (k : Nat) (l : List Int) (s free : Int) : Int := if k < keep.length then mn3 (mxF (keep.getD k 0)) ((l.length : Int) - s) free else 0
def crStep (keep : List Int) (ns : List Rec) (k : Nat) (x : Int × List (Rec × Ob)) : Int × List (Rec × Ob) :=
  (x.1 - crN keep k (obD (obE x.2 [.s (recS (ns.getD k []) 0)])) (obS (obE x.2 [.s (recS (ns.getD k []) 0)])) x.1,
   setE x.2 [.s (recS (ns.getD k []) 0)] (fileOb ((obD (obE x.2 [.s (recS (ns.getD k []) 0)])).take (obS (obE x.2 [.s (recS (ns.getD k []) 0)]) + crN keep k (obD (obE x.2 [.s (recS (ns.getD k []) 0)])) (obS (obE x.2 [.s (recS (ns.getD k []) 0)])) x.1).toNat)
     (obS (obE x.2 [.s (recS (ns.getD k []) 0)]) + crN keep k (obD (obE x.2 [.s (recS (ns.getD k []) 0)])) (obS (obE x.2 [.s (recS (ns.getD k []) 0)])) x.1)))
def crGo (keep : List Int) (ns : List Rec) : Nat → Int × List (Rec × Ob) → Int × List (Rec × Ob)
  | 0, x => x
  | k + 1, x => crStep keep ns k (crGo keep ns k x)
def crashM (d : DkT) (keep : List Int) : DkT := (d.1, d.2.1, 0, false, (crGo keep (sortK d.2.2.2.2) (sortK d.2.2.2.2).length (d.1 - safeSum none d.2.2.2.2, d.2.2.2.2)).2)

theorem crN_le {keep : List Int} {k : Nat} {l : List Int} {s free : Int} (h1 : s ≤ (l.length : Int)) (h2 : 0 ≤ free) : 0 ≤ crN keep k l s free ∧ crN keep k l s free ≤ (l.length : Int) - s ∧ crN keep k l s free ≤ free := by
  unfold crN mn3 mxF
  split
  · split <;> split <;> split <;> (try split) <;> omega
  · omega

/-- On the way. -/
structure CrI (ro : Int) (es0 : List (Rec × Ob)) (x : Int × List (Rec × Ob)) : Prop where
  esd : Esd ro x.2
  free : x.1 = ro - safeSum none x.2
  keys : x.2.map (·.1) = es0.map (·.1)

theorem cr_inv {ro : Int} {es0 : List (Rec × Ob)} {x : Int × List (Rec × Ob)} (h : CrI ro es0 x) (keep : List Int) {k : Nat} (hk : k < (sortK es0).length) : CrI ro es0 (crStep keep (sortK es0) k x) ∧ ∃ s, recS ((sortK es0).getD k []) 0 = s ∧ hasE x.2 [Fd.s s] = true := by
  have hk0 : ∀ e ∈ es0, ∃ s, e.1 = [Fd.s s] := by
    intro e he
    have : e.1 ∈ x.2.map (·.1) := by rw [h.keys]; exact List.mem_map.2 ⟨e, he, rfl⟩
    obtain ⟨f, hf, hfe⟩ := List.mem_map.1 this
    obtain ⟨s, hs, _⟩ := h.esd.keys f hf
    exact ⟨s, by rw [← hfe, hs]⟩
  obtain ⟨s, hs1, hs2⟩ := sortK_at hk0 (k := k) (by rw [← sortK_len]; exact hk)
  have hs3 : recS ((sortK es0).getD k []) 0 = s := by rw [hs1]; rfl
  have hs4 : hasE x.2 [Fd.s s] = true := by
    rw [hasE_iff, h.keys]
    exact hasE_iff.1 hs2
  refine ⟨?_, s, hs3, hs4⟩
  obtain ⟨e, he1, he2⟩ : ∃ e ∈ x.2, e.1 = [Fd.s s] := List.mem_map.1 (hasE_iff.1 hs4)
  obtain ⟨s', hs', hr⟩ := h.esd.keys e he1
  have hss : s' = s := by
    rw [he2] at hs'
    cases hs'
    rfl
  subst hss
  have ho := h.esd.ob [Fd.s s']
  have hf := h.esd.free
  have hx := h.free
  unfold crStep
  rw [hs3]
  obtain ⟨n1, n2, n3⟩ := crN_le (keep := keep) (k := k) (l := obD (obE x.2 [Fd.s s'])) (s := obS (obE x.2 [Fd.s s'])) (free := x.1) ho.2.1 (by omega)
  generalize crN keep k (obD (obE x.2 [Fd.s s'])) (obS (obE x.2 [Fd.s s'])) x.1 = n at n1 n2 n3 ⊢
  have hl : (((obD (obE x.2 [Fd.s s'])).take (obS (obE x.2 [Fd.s s']) + n).toNat).length : Int) = obS (obE x.2 [Fd.s s']) + n := by rw [List.length_take]; omega
  refine ⟨h.esd.set hr ⟨_, _, rfl, by omega, by rw [hl]; exact Int.le_refl _, by omega⟩ (Or.inl hs4) ?_, ?_, by rw [setE_keys hs4]; exact h.keys⟩
  · show safeSum none x.2 - obS (obE x.2 [Fd.s s']) + (obS (obE x.2 [Fd.s s']) + n) ≤ ro
    omega
  · show x.1 - n = ro - safeSum none (setE x.2 [Fd.s s'] _)
    rw [safeSum_put]
    show x.1 - n = ro - (safeSum none x.2 - obS (obE x.2 [Fd.s s']) + (obS (obE x.2 [Fd.s s']) + n))
    omega

theorem crGo_inv {ro : Int} {es0 : List (Rec × Ob)} (h : Esd ro es0) (keep : List Int) : ∀ (k : Nat), k ≤ (sortK es0).length → CrI ro es0 (crGo keep (sortK es0) k (ro - safeSum none es0, es0))
  | 0, _ => ⟨h, rfl, rfl⟩
  | k + 1, hk => (cr_inv (crGo_inv h keep k (by omega)) keep (by omega)).1

theorem crash_ok0 {d : DkT} (h : Okd d) (keep : List Int) : Okd (crashM d keep) := by
  have := crGo_inv h.esd keep (sortK d.2.2.2.2).length (Nat.le_refl _)
  exact this.esd.okd h.room h.steps ⟨by decide, by decide⟩

theorem crash_nxt {d : DkT} (h : Okd d) (keep : List Int) : Nxt d (crashM d keep) := ⟨crash_ok0 h keep, by show d.2.1 ≤ d.2.1 + 1; omega, rfl⟩

theorem cr_loop {ro st fu : Int} {dn : Bool} {es : List (Rec × Ob)} (hd : Okd (ro, st, fu, dn, es)) (keep : List Int) :
    SumOK Try.prog DF (bodyN Try.f14 0) (loopL DF (crSn ro st fu dn keep (ro - safeSum none es) es (sortK es) (0 : Nat)) (.exit 0) (crEnd ro st fu dn (crGo keep (sortK es) (sortK es).length (ro - safeSum none es, es)).2)) := by
  have hlen := sortK_len es
  have h32 := hd.len
  have hro := hd.room
  simp only at h32 hro
  refine sum_loop gN_ok mixed (c := bodyN Try.f14 0) (fun k => crSn ro st fu dn keep (crGo keep (sortK es) k (ro - safeSum none es, es)).1 (crGo keep (sortK es) k (ro - safeSum none es, es)).2 (sortK es) k) (sortK es).length (e := .exit 0)
    (s := crEnd ro st fu dn (crGo keep (sortK es) (sortK es).length (ro - safeSum none es, es)).2) rfl (fun k hk => ?_) ⟨_, _, _, cr_exit ro st fu _ keep dn _ (sortK es) _ (decide_eq_false (by omega))⟩
  have hI := crGo_inv hd.esd keep k (by show k ≤ (sortK es).length; omega)
  obtain ⟨_, s, hs1, hs2⟩ := cr_inv hI keep hk
  show ∃ fuel nid ds ps, stepPs _ _ _ _ _ _ _ _ _ (crSn ro st fu dn keep (crStep keep (sortK es) k (crGo keep (sortK es) k (ro - safeSum none es, es))).1 (crStep keep (sortK es) k (crGo keep (sortK es) k (ro - safeSum none es, es))).2 (sortK es) _) = some ps ∧ AllQ ps
  generalize crGo keep (sortK es) k (ro - safeSum none es, es) = x at hI hs2 ⊢
  obtain ⟨free, es1⟩ := x
  have hs1' : recS ((sortK es).getD (Int.toNat (k : Int)) []) 0 = s := hs1
  have ho := hI.esd.ob [Fd.s s]
  have hf := hI.esd.free
  have hx := hI.free
  simp only at ho hf hx hs2
  have hsp : 0 ≤ safeSum none es1 := by
    have hp : ∀ e ∈ es1, 0 ≤ obS e.2 := by
      intro e he
      obtain ⟨l, n, h1, h2, _⟩ := hI.esd.obs e he
      rw [h1]; exact h2
    clear hI ho hf hx hs2
    induction es1 with
    | nil => exact Int.le_refl _
    | cons e es1 ih =>
      obtain ⟨a, b⟩ := e
      rw [safeSum_cons]
      have := hp (a, b) (List.mem_cons_self ..)
      have := ih (fun e he => hp e (List.mem_cons_of_mem _ he))
      simp only at *
      omega
  obtain ⟨n1, n2, n3⟩ := crN_le (keep := keep) (k := k) (l := obD (obE es1 [Fd.s s])) (s := obS (obE es1 [Fd.s s])) (free := free) ho.2.1 (by omega)
  by_cases c : k < keep.length
  · have hn : crN keep k (obD (obE es1 [Fd.s s])) (obS (obE es1 [Fd.s s])) free = mn3 (mxF (keep.getD k 0)) (((obD (obE es1 [Fd.s s])).length : Int) - obS (obE es1 [Fd.s s])) free := if_pos c
    rw [hn] at n1 n2 n3
    unfold mn3 mxF at n1 n2 n3
    refine ⟨_, _, _, cr_in ro st fu free _ keep dn es1 _ (sortK es) k _ (decide_eq_true (by omega)) (by omega) (by omega) (by simpa using hk) keyT_str rfl (by rw [hs1']; exact hs2) (decide_eq_true (by omega)) (by omega) ?_ ?_ ?_ ?_ ?_ ⟨by omega, by omega⟩ ?_ rfl ?_⟩
    · rw [hs1']; exact ⟨by omega, by omega⟩
    · rw [hs1']; exact ⟨by simp only [Int.toNat_natCast]; omega, by simp only [Int.toNat_natCast]; omega⟩
    · rw [hs1']; simp only [Int.toNat_natCast]; omega
    · rw [hs1']; simp only [Int.toNat_natCast]; omega
    · rw [hs1']; exact ⟨by simp only [Int.toNat_natCast]; omega, by simp only [Int.toNat_natCast]; omega⟩
    · show _ = free - crN keep k (obD (obE es1 [.s (recS ((sortK es).getD k []) 0)])) (obS (obE es1 [.s (recS ((sortK es).getD k []) 0)])) free
      unfold crN
      rw [if_pos c]
      rfl
    · unfold crStep crN
      rw [if_pos c]
      rfl
  · have hn : crN keep k (obD (obE es1 [Fd.s s])) (obS (obE es1 [Fd.s s])) free = 0 := if_neg c
    refine ⟨_, _, _, cr_out ro st fu free _ keep dn es1 _ (sortK es) k _ (decide_eq_true (by omega)) (by omega) (by omega) (by simpa using hk) keyT_str rfl (by rw [hs1']; exact hs2) (decide_eq_false (by omega)) ?_ ?_ ?_ ?_ ⟨by omega, by omega⟩ ?_ rfl ?_⟩
    · rw [hs1']; exact ⟨by omega, by omega⟩
    · rw [hs1']; omega
    · rw [hs1']; omega
    · exact ⟨by omega, by omega⟩
    · show _ = free - crN keep k (obD (obE es1 [.s (recS ((sortK es).getD k []) 0)])) (obS (obE es1 [.s (recS ((sortK es).getD k []) 0)])) free
      unfold crN
      rw [if_neg c]
    · unfold crStep crN
      rw [if_neg c]
      rfl

def crRd (bs : List (BoxSt DF.τ)) : List (A0 DF.τ) → Option (DkT × List Int)
  | [.one (.ref 0 0), .one (.words .i64 keep)] => match dkRd bs with
    | some d => some (d, keep)
    | none => none
  | _ => none
noncomputable def crashQ := mkF DF Try.f14.ntmps crRd (fun t => (dkBt t.1, [.one (.ref 0 0), .one (.words .i64 t.2)])) (fun t => some (.tup [], dkBt (crashM t.1 t.2), [Okd t.1]))
theorem crash_ok : OpOK Try.prog DF 14 crashQ := by
  refine opOK_mk gN_ok mixed Try.func14 (enters_of Try.func14 (by kernel_rfl) rfl) ?_
  rintro ⟨⟨ro, st, fu, dn, es⟩, keep⟩ r' bs' ps h hps
  simp only [Option.some.injEq, Prod.mk.injEq] at h
  obtain ⟨rfl, rfl, rfl⟩ := h
  have hd : Okd (ro, st, fu, dn, es) := hps (Okd _) (by simp)
  exact ⟨_, _, cr_run ro st fu _ keep dn es _ (sortK es) hd.freeN hd.short (cr_loop hd keep) rfl rfl rfl⟩

end Go.Num

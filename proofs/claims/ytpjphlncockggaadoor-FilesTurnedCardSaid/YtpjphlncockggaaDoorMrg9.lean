/- Several texts put together: D10 D11 D12 SD S1 S2 S3 S4. -/
import Derived.Test.YtpjphlncockggaaDoorMrg8
namespace Go.Num
open Go.Abs Go.Proofs Go.Shelf Go.RowKit
def dkRdE : List (BoxSt DF.τ) → Option DkT
  | [.fixed t ps, .fam k es none] => match ps with
    | [.int .i64 false ro, .mapr 1, .int .i64 false st, .int .i64 false fu, .bool false dn] => bif Nat.beq t 52 && Nat.beq k 0 then some (ro, st, fu, dn, es) else none
    | _ => none
  | _ => none
theorem dkRdE_is {bs : List (BoxSt DF.τ)} {d : DkT} (h : dkRdE bs = some d) : dkBt d = bs := by
  unfold dkRdE at h
  split at h
  · rename_i t ps k es
    split at h
    · rename_i ro st fu dn
      cases hb : (Nat.beq t 52 && Nat.beq k 0) <;> simp only [hb, cond_true, cond_false] at h
      · cases h
      · obtain ⟨rfl, rfl⟩ := beq_and hb
        cases h
        rfl
    · cases h
  · cases h
theorem sortK_len (es : List (Rec × Ob)) : (sortK es).length = es.length := by
  unfold sortK keyL
  rw [List.length_map, List.length_mergeSort, List.length_map]
theorem ba_back (s : ByteArray) : (⟨s.data.toList.toArray⟩ : ByteArray) = s := by
  cases s
  rfl
theorem sortK_mem {es : List (Rec × Ob)} (hk : ∀ e ∈ es, ∃ s, e.1 = [Fd.s s]) {r : Rec} : r ∈ sortK es ↔ r ∈ es.map (·.1) := by
  unfold sortK keyL
  rw [List.mem_map]
  constructor
  · rintro ⟨l, hl, rfl⟩
    have hl' := (List.mergeSort_perm _ leB).mem_iff.1 hl
    obtain ⟨e, he, rfl⟩ := List.mem_map.1 hl'
    obtain ⟨s, hs⟩ := hk e he
    refine List.mem_map.2 ⟨e, he, ?_⟩
    rw [hs]
    show [Fd.s s] = [Fd.s ⟨s.data.toList.toArray⟩]
    rw [ba_back]
  · intro h
    obtain ⟨e, he, rfl⟩ := List.mem_map.1 h
    obtain ⟨s, hs⟩ := hk e he
    refine ⟨s.data.toList, (List.mergeSort_perm _ leB).mem_iff.2 (List.mem_map.2 ⟨e, he, by rw [hs]; rfl⟩), ?_⟩
    rw [hs, ba_back]
theorem hasE_iff {es : List (Rec × Ob)} {k : Rec} : hasE es k = true ↔ k ∈ es.map (·.1) := by
  constructor
  · intro h
    exact List.mem_map.2 ⟨_, hasE_mem h, rfl⟩
  · intro h
    induction es with
    | nil => cases h
    | cons e es ih =>
      obtain ⟨x, o⟩ := e
      by_cases hx : x = k
      · simp [hasE, getE, hx]
      · have : k ∈ es.map (·.1) := by
          rcases List.mem_cons.1 h with h | h
          · exact (hx h.symm).elim
          · exact h
        simpa [hasE, getE, hx] using ih this
theorem setE_keys {es : List (Rec × Ob)} {k : Rec} {o : Ob} (h : hasE es k = true) : (setE es k o).map (·.1) = es.map (·.1) := by
  induction es with
  | nil => cases h
  | cons e es ih =>
    obtain ⟨x, p⟩ := e
    by_cases hx : x = k
    · simp [setE, hx]
    · have h1 : hasE es k = true := by simpa [hasE, getE, hx] using h
      simp [setE, hx, ih h1]
theorem setE_keysN {es : List (Rec × Ob)} {k : Rec} {o : Ob} (h : hasE es k = false) : setE es k o = es ++ [(k, o)] := by
  induction es with
  | nil => rfl
  | cons e es ih =>
    obtain ⟨x, p⟩ := e
    by_cases hx : x = k
    · simp [hasE, getE, hx] at h
    · have h1 : hasE es k = false := by simpa [hasE, getE, hx] using h
      simp [setE, hx, ih h1]
theorem setE_mem {es : List (Rec × Ob)} {k : Rec} {o : Ob} {e : Rec × Ob} (h : e ∈ setE es k o) : e = (k, o) ∨ e ∈ es := by
  induction es with
  | nil => simpa [setE] using h
  | cons f es ih =>
    obtain ⟨x, p⟩ := f
    by_cases hx : x = k
    · rw [setE, if_pos hx] at h
      rcases List.mem_cons.1 h with h | h
      · exact Or.inl (by rw [h, hx])
      · exact Or.inr (List.mem_cons_of_mem _ h)
    · rw [setE, if_neg hx] at h
      rcases List.mem_cons.1 h with h | h
      · exact Or.inr (by rw [h]; exact List.mem_cons_self ..)
      · rcases ih h with h | h
        · exact Or.inl h
        · exact Or.inr (List.mem_cons_of_mem _ h)
theorem Okd.keys1 {d : DkT} (h : Okd d) : ∀ e ∈ d.2.2.2.2, ∃ s, e.1 = [Fd.s s] := fun e he => by
  obtain ⟨s, hs, _⟩ := h.keys e he
  exact ⟨s, hs⟩
theorem Okd.short {d : DkT} (h : Okd d) : Short d.2.2.2.2 := by
  refine ⟨by have := h.len; omega, fun e he => ?_⟩
  obtain ⟨s, hs, hr⟩ := h.keys e he
  rw [hs]
  show s.size ≤ _
  have := rightB_size hr
  omega
theorem sortK_at {es : List (Rec × Ob)} (hk : ∀ e ∈ es, ∃ s, e.1 = [Fd.s s]) {k : Nat} (hlt : k < es.length) : ∃ s, (sortK es).getD k [] = [Fd.s s] ∧ hasE es [Fd.s s] = true := by
  have hl : k < (sortK es).length := by rw [sortK_len]; exact hlt
  have hm : (sortK es).getD k [] ∈ sortK es := by
    rw [List.getD_eq_getElem?_getD, List.getElem?_eq_getElem hl]
    exact List.getElem_mem hl
  have h2 := (sortK_mem hk).1 hm
  obtain ⟨e, he, hee⟩ := List.mem_map.1 h2
  obtain ⟨s, hs⟩ := hk e he
  refine ⟨s, by rw [← hee, hs], ?_⟩
  rw [hasE_iff, ← hs, hee]
  exact h2
def readM (d : DkT) (s : ByteArray) : Int × List Int := if d.err s ≠ 0 then (d.err s, []) else (0, fD d s)
def reRd (bs : List (BoxSt DF.τ)) : List (A0 DF.τ) → Option (DkT × ByteArray)
  | [.one (.ref 0 0), .one (.str s)] => match dkRdE bs with
    | some d => some (d, s)
    | none => none
  | _ => none
theorem reRd_is {bs : List (BoxSt DF.τ)} {xs : List (A0 DF.τ)} {t : DkT × ByteArray} (h : reRd bs xs = some t) : (fiPre t).1 = bs := by
  unfold reRd at h
  split at h
  · split at h
    · rename_i d hd
      cases h
      exact dkRdE_is hd
    · cases h
  · cases h
noncomputable def readR := mkF DF Tryd.f16.ntmps reRd fiPre (fun t => some (rdV (readM t.1 t.2).1, [dynB (readM t.1 t.2).2], [Okd t.1, t.2.size ≤ 9223372036854775807]))
theorem read_ok : OpOK Tryd.prog DF 16 (withNew readR) := by
  refine opOK_mkR mixed Tryd.func16 (enters_of Tryd.func16 (by kernel_rfl) rfl) (fun _ _ _ => reRd_is) ?_
  rintro ⟨⟨ro, st, fu, dn, es⟩, s⟩ r' ns ps h hps
  simp only [Option.some.injEq, Prod.mk.injEq] at h
  obtain ⟨rfl, rfl, rfl⟩ := h
  have hd : Okd (ro, st, fu, dn, es) := hps (Okd _) (by simp)
  have hs : s.size ≤ 9223372036854775807 := hps (s.size ≤ 9223372036854775807) (by simp)
  by_cases c0 : errF dn es s = 0
  · obtain ⟨e1, e2, e3⟩ := errF_ok c0
    have hm : readM (ro, st, fu, dn, es) s = (0, fD (ro, st, fu, dn, es) s) := by
      unfold readM
      exact if_neg (by simp [c0])
    rw [hm]
    exact ⟨_, _, _, gam_op findOk_ok (gam_cons clone_ok gam_nil), re_ok s ro st fu _ dn es _ _ c0 hs (hd.ob [Fd.s s]).2.2 rfl rfl rfl (hd.back e3) rfl⟩
  · have hm : readM (ro, st, fu, dn, es) s = (errF dn es s, []) := by
      unfold readM
      exact if_pos c0
    rw [hm]
    exact ⟨_, _, _, gam_op findBad_ok gam_nil, re_bad s ro st fu _ dn es _ c0 hs (bne_iff_ne.2 c0) rfl rfl⟩
def spRdE (bs : List (BoxSt DF.τ)) : List (A0 DF.τ) → Option DkT
  | [.one (.ref 0 0)] => dkRdE bs
  | _ => none
theorem spRdE_is {bs : List (BoxSt DF.τ)} {xs : List (A0 DF.τ)} {d : DkT} (h : spRdE bs xs = some d) : dkBt d = bs := by
  unfold spRdE at h
  split at h
  · exact dkRdE_is h
  · cases h
theorem gN_ok : GamOK Tryd.prog DF gN := gam_op names_ok (gam_fz clone_ok (gam_rd freeR_ok (gam_op keep_ok gam_nil)))
def listM (d : DkT) : List Rec := if d.2.2.2.1 = true then [] else sortK d.2.2.2.2
noncomputable def listR := mkF DF Tryd.f17.ntmps spRdE (fun d => (dkBt d, [.one (.ref 0 0)])) (fun d => some (.v (.one (.own 2)), [nmB (listM d)], [Okd d]))
theorem list_ok : OpOK Tryd.prog DF 17 (withNew listR) := by
  refine opOK_mkR mixed Tryd.func17 (enters_of Tryd.func17 (by kernel_rfl) rfl) (fun _ _ _ => spRdE_is) ?_
  rintro ⟨ro, st, fu, dn, es⟩ r' ns ps h hps
  simp only [Option.some.injEq, Prod.mk.injEq] at h
  obtain ⟨rfl, rfl, rfl⟩ := h
  have hd : Okd (ro, st, fu, dn, es) := hps (Okd _) (by simp)
  cases dn
  · exact ⟨_, _, _, gN_ok, li_run ro st fu false es _ rfl hd.short rfl⟩
  · exact ⟨_, _, _, gN_ok, li_down ro st fu true es _ rfl rfl⟩
end Go.Num
namespace Go.Num
open Go.Abs Go.Proofs Go.Shelf Go.RowKit
theorem safeSum_cons (x : Rec) (o : Ob) (es : List (Rec × Ob)) : safeSum none ((x, o) :: es) = obS o + safeSum none es := by
  unfold safeSum
  rw [List.map_cons, List.sum_cons]
  rfl
theorem safeSum_nil : safeSum none [] = 0 := rfl
theorem safeSum_set {es : List (Rec × Ob)} {k : Rec} {o : Ob} (h : hasE es k = true) : safeSum none (setE es k o) = safeSum none es - obS (obE es k) + obS o := by
  induction es with
  | nil => cases h
  | cons e es ih =>
    obtain ⟨x, p⟩ := e
    by_cases hx : x = k
    · subst hx
      rw [setE, if_pos rfl, safeSum_cons, safeSum_cons]
      have : obE ((x, p) :: es) x = p := by simp [obE, getE]
      rw [this]
      omega
    · have h1 : hasE es k = true := by simpa [hasE, getE, hx] using h
      have h2 : obE ((x, p) :: es) k = obE es k := by simp [obE, getE, hx]
      rw [setE, if_neg hx, safeSum_cons, safeSum_cons, ih h1, h2]
      omega
theorem safeSum_new {es : List (Rec × Ob)} {k : Rec} {o : Ob} (h : hasE es k = false) : safeSum none (setE es k o) = safeSum none es + obS o := by
  rw [setE_keysN h]
  unfold safeSum
  rw [List.map_append, List.sum_append]
  show _ + (obS o + 0) = _
  omega
theorem safeSum_put {es : List (Rec × Ob)} {k : Rec} {o : Ob} : safeSum none (setE es k o) = safeSum none es - obS (obE es k) + obS o := by
  cases h : hasE es k
  · rw [safeSum_new h, obE_none h]
    show _ = _ - 0 + _
    omega
  · exact safeSum_set h
theorem delE_mem {es : List (Rec × Ob)} {k : Rec} {e : Rec × Ob} (h : e ∈ delE es k) : e ∈ es := by
  induction es with
  | nil => cases h
  | cons f es ih =>
    obtain ⟨x, p⟩ := f
    by_cases hx : x = k
    · rw [delE, if_pos hx] at h
      exact List.mem_cons_of_mem _ h
    · rw [delE, if_neg hx] at h
      rcases List.mem_cons.1 h with h | h
      · rw [h]; exact List.mem_cons_self ..
      · exact List.mem_cons_of_mem _ (ih h)
theorem delE_nodup {es : List (Rec × Ob)} {k : Rec} (h : (es.map (·.1)).Nodup) : ((delE es k).map (·.1)).Nodup := by
  induction es with
  | nil => exact h
  | cons f es ih =>
    obtain ⟨x, p⟩ := f
    simp only [List.map_cons, List.nodup_cons] at h
    by_cases hx : x = k
    · rw [delE, if_pos hx]
      exact h.2
    · rw [delE, if_neg hx]
      simp only [List.map_cons, List.nodup_cons]
      refine ⟨fun hm => h.1 ?_, ih h.2⟩
      obtain ⟨e, he, hee⟩ := List.mem_map.1 hm
      exact List.mem_map.2 ⟨e, delE_mem he, hee⟩
theorem delE_len {es : List (Rec × Ob)} {k : Rec} (h : hasE es k = true) : (delE es k).length + 1 = es.length := by
  induction es with
  | nil => cases h
  | cons f es ih =>
    obtain ⟨x, p⟩ := f
    by_cases hx : x = k
    · rw [delE, if_pos hx]; rfl
    · have h1 : hasE es k = true := by simpa [hasE, getE, hx] using h
      rw [delE, if_neg hx, List.length_cons, List.length_cons, ih h1]
theorem safeSum_del {es : List (Rec × Ob)} {k : Rec} (h : hasE es k = true) : safeSum none (delE es k) = safeSum none es - obS (obE es k) := by
  induction es with
  | nil => cases h
  | cons e es ih =>
    obtain ⟨x, p⟩ := e
    by_cases hx : x = k
    · subst hx
      rw [delE, if_pos rfl, safeSum_cons]
      have : obE ((x, p) :: es) x = p := by simp [obE, getE]
      rw [this]
      omega
    · have h1 : hasE es k = true := by simpa [hasE, getE, hx] using h
      have h2 : obE ((x, p) :: es) k = obE es k := by simp [obE, getE, hx]
      rw [delE, if_neg hx, safeSum_cons, safeSum_cons, ih h1, h2]
      omega
structure Esd (ro : Int) (es : List (Rec × Ob)) : Prop where
  keys : ∀ e ∈ es, ∃ s, e.1 = [Fd.s s] ∧ rightB s = true
  nodup : (es.map (·.1)).Nodup
  obs : ∀ e ∈ es, ObOK e.2
  len : es.length ≤ 32
  free : safeSum none es ≤ ro
theorem Okd.esd {d : DkT} (h : Okd d) : Esd d.1 d.2.2.2.2 := ⟨h.keys, h.nodup, h.obs, h.len, h.free⟩
theorem Esd.okd {ro : Int} {es : List (Rec × Ob)} (h : Esd ro es) {st fu : Int} {dn : Bool} (hr : 0 ≤ ro ∧ ro ≤ 4194304) (hs : 0 ≤ st) (hf : 0 ≤ fu ∧ fu ≤ 9223372036854775807) : Okd (ro, st, fu, dn, es) :=
  ⟨h.keys, h.nodup, h.obs, h.len, hr, h.free, hs, hf⟩
theorem Esd.set {ro : Int} {es : List (Rec × Ob)} (h : Esd ro es) {s : ByteArray} {o : Ob} (hs : rightB s = true) (ho : ObOK o) (hl : hasE es [Fd.s s] = true ∨ es.length < 32) (hf : safeSum none es - obS (obE es [Fd.s s]) + obS o ≤ ro) : Esd ro (setE es [Fd.s s] o) := by
  refine ⟨fun e he => ?_, ?_, fun e he => ?_, ?_, by rw [safeSum_put]; exact hf⟩
  · rcases setE_mem he with rfl | he
    · exact ⟨s, rfl, hs⟩
    · exact h.keys e he
  · cases hh : hasE es [Fd.s s]
    · rw [setE_keysN hh, List.map_append, List.nodup_append]
      refine ⟨h.nodup, by simp, fun a ha b hb => ?_⟩
      simp only [List.map_cons, List.map_nil, List.mem_singleton] at hb
      subst hb
      intro e
      subst e
      rw [hasE_iff.2 ha] at hh
      cases hh
    · rw [setE_keys hh]
      exact h.nodup
  · rcases setE_mem he with rfl | he
    · exact ho
    · exact h.obs e he
  · cases hh : hasE es [Fd.s s]
    · rw [setE_keysN hh, List.length_append]
      have : es.length < 32 := by rcases hl with hl | hl; rw [hh] at hl; cases hl; exact hl
      simp
      omega
    · have : (setE es [Fd.s s] o).length = es.length := by
        have := congrArg List.length (setE_keys (o := o) hh)
        simpa using this
      rw [this]
      exact h.len
theorem Esd.ob {ro : Int} {es : List (Rec × Ob)} (h : Esd ro es) (k : Rec) : 0 ≤ obS (obE es k) ∧ obS (obE es k) ≤ ((obD (obE es k)).length : Int) ∧ (obD (obE es k)).length ≤ 140737488355328 := by
  cases hk : hasE es k
  · rw [obE_none hk]
    exact ⟨by decide, by decide, by decide⟩
  · obtain ⟨l, n, e, h1, h2, h3⟩ := h.obs _ (hasE_mem hk)
    simp only at e
    rw [e]
    exact ⟨h1, h2, h3⟩
theorem Esd.del {ro : Int} {es : List (Rec × Ob)} (h : Esd ro es) {k : Rec} (hk : hasE es k = true) : Esd ro (delE es k) ∧ (delE es k).length < 32 ∧ safeSum none (delE es k) = safeSum none es - obS (obE es k) := by
  have h1 := safeSum_del hk
  have h2 := delE_len hk
  have h3 := h.len
  have h4 := h.free
  have h5 := (h.ob k).1
  exact ⟨⟨fun e he => h.keys e (delE_mem he), delE_nodup h.nodup, fun e he => h.obs e (delE_mem he), by omega, by omega⟩, by omega, h1⟩
theorem stp_ok {d : DkT} (h : Okd d) {es : List (Rec × Ob)} (he : Esd d.1 es) : Okd (stp d es) ∧ (stp d es).2.1 ≤ d.2.1 + 1 ∧ (stp d es).1 = d.1 := by
  obtain ⟨ro, st, fu, dn, es0⟩ := d
  have h1 := h.steps
  have h2 := h.fuse
  simp only at h1 h2
  refine ⟨he.okd h.room ?_ ?_, ?_, rfl⟩
  · show 0 ≤ stSt fu st
    unfold stSt
    split <;> omega
  · show 0 ≤ stFu fu ∧ stFu fu ≤ _
    unfold stFu
    split
    · omega
    · split <;> omega
  · show stSt fu st ≤ st + 1
    unfold stSt
    split <;> omega
def Nxt (d d' : DkT) : Prop := Okd d' ∧ d'.2.1 ≤ d.2.1 + 1 ∧ d'.1 = d.1
theorem nxt_same {d : DkT} (h : Okd d) : Nxt d d := ⟨h, by omega, rfl⟩
theorem append_nxt {d : DkT} (h : Okd d) (s : ByteArray) (b : List Int) : Nxt d (appendM d s b).2 := by
  unfold appendM
  split
  · exact nxt_same h
  · rename_i c0
    split
    · exact nxt_same h
    · rename_i c1
      split
      · exact nxt_same h
      · rename_i c2
        have ho := h.ob [Fd.s s]
        have hf := h.free
        refine stp_ok h (h.esd.set ?_ ⟨_, _, rfl, ho.1, ?_, ?_⟩ ?_ ?_)
        · by_cases c : d.err s = 0
          · exact (errF_ok c).2.1
          · exact (errF_41 (Classical.not_not.1 (fun hh => c0 ⟨c, hh⟩))).2.1
        · rw [List.length_append]
          show obS (obE d.2.2.2.2 [Fd.s s]) ≤ (((obD (obE d.2.2.2.2 [Fd.s s])).length + b.length : Nat) : Int)
          omega
        · rw [List.length_append]
          omega
        · by_cases c : d.err s = 0
          · exact Or.inl (errF_ok c).2.2
          · have c' : d.err s = 41 := Classical.not_not.1 (fun hh => c0 ⟨c, hh⟩)
            right
            have : ¬ 32 ≤ d.es.length := fun hh => c1 ⟨c', hh⟩
            show d.2.2.2.2.length < 32
            exact Nat.lt_of_not_le this
        · show safeSum none d.2.2.2.2 - obS (obE d.2.2.2.2 [Fd.s s]) + obS (obE d.2.2.2.2 [Fd.s s]) ≤ d.1
          omega
theorem sync_nxt {d : DkT} (h : Okd d) (s : ByteArray) : Nxt d (syncM d s).2 := by
  unfold syncM
  split
  · exact nxt_same h
  · rename_i c0
    split
    · exact nxt_same h
    · rename_i c1
      split
      · have ho := h.ob [Fd.s s]
        obtain ⟨e1, e2, e3⟩ := errF_ok (Classical.not_not.1 c0)
        refine stp_ok h (h.esd.set e2 ⟨_, _, rfl, by omega, Int.le_refl _, ho.2.2⟩ (Or.inl e3) ?_)
        show safeSum none d.2.2.2.2 - obS (obE d.2.2.2.2 [Fd.s s]) + ((obD (obE d.2.2.2.2 [Fd.s s])).length : Int) ≤ d.1
        have : ¬ (d.1 - safeSum none d.2.2.2.2 < ((obD (obE d.2.2.2.2 [Fd.s s])).length : Int) - obS (obE d.2.2.2.2 [Fd.s s])) := c1
        omega
      · exact stp_ok h h.esd
theorem move_nxt {d : DkT} (h : Okd d) (s t : ByteArray) : Nxt d (moveM d s t).2 := by
  unfold moveM
  split
  · exact nxt_same h
  · rename_i c0
    split
    · exact nxt_same h
    · rename_i c1
      split
      · have ho := h.ob [Fd.s s]
        have hf := h.free
        obtain ⟨e1, e2, e3⟩ := errF_ok (Classical.not_not.1 c0)
        obtain ⟨q1, q2, q3⟩ := h.esd.del e3
        refine stp_ok h (q1.set (by simpa using c1) ⟨_, _, rfl, ho.1, ho.2.1, ho.2.2⟩ (Or.inr q2) ?_)
        have := (q1.ob [Fd.s t]).1
        have q3' : safeSum none (delE d.2.2.2.2 [Fd.s s]) = safeSum none d.2.2.2.2 - obS (obE d.2.2.2.2 [Fd.s s]) := q3
        show safeSum none (delE d.2.2.2.2 [Fd.s s]) - obS (obE (delE d.2.2.2.2 [Fd.s s]) [Fd.s t]) + obS (obE d.2.2.2.2 [Fd.s s]) ≤ d.1
        have this' : 0 ≤ obS (obE (delE d.2.2.2.2 [Fd.s s]) [Fd.s t]) := this
        omega
      · exact stp_ok h h.esd
theorem drop_nxt {d : DkT} (h : Okd d) (s : ByteArray) : Nxt d (dropM d s).2 := by
  unfold dropM
  split
  · exact nxt_same h
  · rename_i c0
    split
    · obtain ⟨e1, e2, e3⟩ := errF_ok (Classical.not_not.1 c0)
      exact stp_ok h (h.esd.del e3).1
    · exact stp_ok h h.esd
structure CrI (ro : Int) (es0 : List (Rec × Ob)) (x : Int × List (Rec × Ob)) : Prop where
  esd : Esd ro x.2
  free : x.1 = ro - safeSum none x.2
  keys : x.2.map (·.1) = es0.map (·.1)
end Go.Num
namespace Go.Num
open Go.Abs Go.Proofs Go.Shelf Go.RowKit
def clampR (n : Int) : Int := if (4194304 < (if (0 > n) then 0 else n)) then 4194304 else (if (0 > n) then 0 else n)
theorem clampR_ok (n : Int) : 0 ≤ clampR n ∧ clampR n ≤ 4194304 := by
  unfold clampR
  split <;> split <;> omega
structure Mid (es : List (Rec × Ob)) (k : Nat) : Prop where
  keys : ∀ e ∈ es, ∃ s, e.1 = [Fd.s s] ∧ rightB s = true
  nodup : (es.map (·.1)).Nodup
  obs : ∀ e ∈ es, ObOK e.2
  len : es.length = k
theorem gM_ok : GamOK Tryd.prog DF gM := gam_look (gam_op ne_ok (gam_cons right_ok (gam_cons clone_ok (gam_rd freeR_ok gam_nil))))
end Go.Num
namespace Go.Num
open Go.Abs Go.Proofs Go.Shelf
abbrev DS : Dom := DF
end Go.Num
namespace Go.Num
open Go.Abs Go.Proofs Go.Shelf
theorem rot_run (x k : Int)
 (h1 : ((0 : Int) ≤ (bitsOf Go.BinOp.and Go.IntKind.u64 (Go.IntKind.wrap Go.IntKind.u64 k) (31 : Int))))
 (h2 : ((0 : Int) ≤ (Go.IntKind.wrap Go.IntKind.u64 ((32 : Int) - (bitsOf Go.BinOp.and Go.IntKind.u64 (Go.IntKind.wrap Go.IntKind.u64 k) (31 : Int)))))) :
 ∃ ps, runF Tryd.prog DS [] 100 Tryd.f52 [.one (.int .u32 false x), .one (.int .i64 false k)] [] = some ((AV.v (A0.one (Part.int Go.IntKind.u32 ((false && (false && true)) && (false && false)) (bitsOf Go.BinOp.or Go.IntKind.u32 (Go.IntKind.wrap Go.IntKind.u32 (x * ((2 : Int) ^ (min (Int.toNat (bitsOf Go.BinOp.and Go.IntKind.u64 (Go.IntKind.wrap Go.IntKind.u64 k) (31 : Int))) (32 : Nat))))) (Int.fdiv x ((2 : Int) ^ (min (Int.toNat (Go.IntKind.wrap Go.IntKind.u64 ((32 : Int) - (bitsOf Go.BinOp.and Go.IntKind.u64 (Go.IntKind.wrap Go.IntKind.u64 k) (31 : Int))))) (32 : Nat)))))))), ps) ∧ AllQ ps := ⟨_, by kernel_rfl, qc h1 (qc h2 (qn))⟩
def rotl (x k : Int) : Int := bitsOf .or .u32 (IntKind.u32.wrap (x * 2 ^ min (bitsOf .and .u64 (IntKind.u64.wrap k) 31).toNat 32)) (x.fdiv (2 ^ min (IntKind.u64.wrap (32 - bitsOf .and .u64 (IntKind.u64.wrap k) 31)).toNat 32))
def rotD : FnD DS
  | [.one (.int .u32 _ x), .one (.int .i64 _ k)] => some (.v (.one (.int .u32 false (rotl x k))), [0 ≤ bitsOf .and .u64 (IntKind.u64.wrap k) 31, 0 ≤ IntKind.u64.wrap (32 - bitsOf .and .u64 (IntKind.u64.wrap k) 31)])
  | _ => none
theorem rotl_ok : FnOK Tryd.prog DS 52 rotD := by
  refine fnOK_of gam_nil mixed Tryd.func52 (enters_of Tryd.func52 (by kernel_rfl) rfl) ?_
  intro xs r ps h hps
  unfold rotD at h
  split at h
  · rename_i _ x _ k
    simp only [Option.some.injEq, Prod.mk.injEq] at h
    obtain ⟨rfl, rfl⟩ := h
    obtain ⟨qs, h1, h2⟩ := rot_run x k (hps _ (by simp)) (hps _ (by simp))
    exact ⟨_, _, _, _, _, fun w vs hx => args2 int_lit int_lit hx, h1, h2, fun E v hv => hv⟩
  · cases h
noncomputable def gamT : Gam DS := [(52, .fn rotD)]
theorem gamT_ok : GamOK Tryd.prog DS gamT := gam_cons rotl_ok gam_nil
def hashP (s r : List Int) (n : Int) : List (Part DS.τ) := [.arr .u32 8 s, .arr .u8 64 r, .int .i64 false n]
def tkSn (s r : List Int) (n : Int) (p w : List Int) (sl : List (Nat × AV DS.τ)) : Sn DS.τ where
  slots := [(0, .v (.one (.ref 0 0))), (3, .v (.one (.ref 1 0))), (4, .v (.one (.ref 2 0)))] ++ sl
  boxes := [(0, .fixed 80 (hashP s r n)), (1, .fixed 78 [.arr .u8 64 p]), (2, .fixed 94 [.arr .u32 64 w])]
  nt := 189
  np := 1
def tk3Sn (s r : List Int) (n : Int) (w v : List Int) (sl : List (Nat × AV DS.τ)) : Sn DS.τ where
  slots := [(0, .v (.one (.ref 0 0))), (4, .v (.one (.ref 2 0))), (12, .v (.one (.ref 3 0)))] ++ sl
  boxes := [(0, .fixed 80 (hashP s r n)), (2, .fixed 94 [.arr .u32 64 w]), (3, .fixed 77 [.arr .u32 8 v])]
  nt := 189
  np := 1
def slI (t : Nat) (i : Int) : Nat × AV DS.τ := (t, .v (.one (.int .i64 false i)))
theorem t1_round (s r p w w' : List Int) (n i : Int) (j : Nat)
 (h1 : ((decide (((j : Nat) : Int) < (4 : Int))) = true))
 (h2 : ((0 : Int) ≤ i))
 (h3 : (i < (((64 : Nat) : Nat) : Int)))
 (h4 : (InI64 ((4 : Int) * i)))
 (h5 : (InI64 (((4 : Int) * i) + ((j : Nat) : Int))))
 (h6 : ((0 : Int) ≤ (((4 : Int) * i) + ((j : Nat) : Int))))
 (h7 : ((((4 : Int) * i) + ((j : Nat) : Int)) < (((64 : Nat) : Nat) : Int)))
 (h8 : (InI64 (((j : Nat) : Int) + (1 : Int))))
 (h9 : ((List.set w (Int.toNat i) (bitsOf Go.BinOp.or Go.IntKind.u32 (Go.IntKind.wrap Go.IntKind.u32 ((List.getD w (Int.toNat i) (0 : Int)) * ((2 : Int) ^ (min (8 : Nat) (32 : Nat))))) (Go.IntKind.wrap Go.IntKind.u32 (List.getD p (Int.toNat (((4 : Int) * i) + ((j : Nat) : Int))) (0 : Int))))) = w')) :
 ∃ ps, stepPs Tryd.prog DS gamT 100 (bodyN Tryd.f48 1) 100 (tkSn s r n p w [slI 23 i, slI 5 i, slI 26 j]).st [.is true] .normal (tkSn s r n p w' [slI 23 i, slI 5 i, slI 26 ((j : Int) + 1)]) = some ps ∧ AllQ ps := ⟨_, by kernel_rfl, qc h1 (qc h2 (qc h3 (qc h4 (qc h5 (qc h6 (qc h7 (qc h2 (qc h3 (qc h8 (qc (Eq.refl i) (qc (Eq.refl i) (qc (Eq.refl ((((j : Nat) : Int) + (1 : Int)))) (qc (Eq.refl s) (qc (Eq.refl r) (qc (Eq.refl n) (qc (Eq.refl p) (qc h9 (qn))))))))))))))))))⟩
theorem t1_exit (s r p w : List Int) (n i : Int) (j : Nat)
 (h1 : ((decide (((j : Nat) : Int) < (4 : Int))) = false)) :
 ∃ ps, stepPs Tryd.prog DS gamT 100 (bodyN Tryd.f48 1) 100 (tkSn s r n p w [slI 23 i, slI 5 i, slI 26 j]).st [.is false] (.exit 2) (tkSn s r n p w [slI 23 i]) = some ps ∧ AllQ ps := ⟨_, by kernel_rfl, qc h1 (qc (Eq.refl i) (qc (Eq.refl s) (qc (Eq.refl r) (qc (Eq.refl n) (qc (Eq.refl p) (qc (Eq.refl w) (qn)))))))⟩
theorem t0_round (s r p w w1 : List Int) (n : Int) (i : Nat)
 (h1 : ((decide (((i : Nat) : Int) < (16 : Int))) = true))
 (h2 : SumOK Tryd.prog DS (bodyN Tryd.f48 1) (loopL DS (tkSn s r n p w [slI 23 i, slI 5 i, slI 26 (0 : Nat)]) (.exit 2) (tkSn s r n p w1 [slI 23 i])))
 (h3 : (InI64 (((i : Nat) : Int) + (1 : Int)))) :
 ∃ ps, stepPs Tryd.prog DS gamT 100 (bodyN Tryd.f48 0) 100 (tkSn s r n p w [slI 23 i]).st [.is true, .loop (loopL DS (tkSn s r n p w [slI 23 i, slI 5 i, slI 26 (0 : Nat)]) (.exit 2) (tkSn s r n p w1 [slI 23 i]))] .normal (tkSn s r n p w1 [slI 23 ((i : Int) + 1)]) = some ps ∧ AllQ ps := ⟨_, by kernel_rfl, qc h1 (qc h2 (qc (Eq.refl (((i : Nat) : Int))) (qc (Eq.refl (((i : Nat) : Int))) (qc (show ((0 : Int) = (((0 : Nat) : Nat) : Int)) from by decide) (qc (Eq.refl s) (qc (Eq.refl r) (qc (Eq.refl n) (qc (Eq.refl p) (qc (Eq.refl w) (qc h3 (qc (Eq.refl ((((i : Nat) : Int) + (1 : Int)))) (qc (Eq.refl s) (qc (Eq.refl r) (qc (Eq.refl n) (qc (Eq.refl p) (qc (Eq.refl w1) (qn)))))))))))))))))⟩
theorem t0_exit (s r p w : List Int) (n : Int) (i : Nat)
 (h1 : ((decide (((i : Nat) : Int) < (16 : Int))) = false)) :
 ∃ ps, stepPs Tryd.prog DS gamT 100 (bodyN Tryd.f48 0) 100 (tkSn s r n p w [slI 23 i]).st [.is false] (.exit 0) (tkSn s r n p w []) = some ps ∧ AllQ ps := ⟨_, by kernel_rfl, qc h1 (qc (Eq.refl s) (qc (Eq.refl r) (qc (Eq.refl n) (qc (Eq.refl p) (qc (Eq.refl w) (qn))))))⟩
theorem t2_round (s r p w w' : List Int) (n : Int) (i : Nat)
 (h1 : ((decide (((i : Nat) : Int) < (48 : Int))) = true))
 (h2 : (InI64 (((i : Nat) : Int) + (1 : Int))))
 (h3 : ((0 : Int) ≤ (((i : Nat) : Int) + (1 : Int))))
 (h4 : ((((i : Nat) : Int) + (1 : Int)) < (((64 : Nat) : Nat) : Int)))
 (h5 : (InI64 (((i : Nat) : Int) + (14 : Int))))
 (h6 : ((0 : Int) ≤ (((i : Nat) : Int) + (14 : Int))))
 (h7 : ((((i : Nat) : Int) + (14 : Int)) < (((64 : Nat) : Nat) : Int)))
 (h8 : (InI64 (((i : Nat) : Int) + (16 : Int))))
 (h9 : ((0 : Int) ≤ ((i : Nat) : Int)))
 (h10 : (((i : Nat) : Int) < (((64 : Nat) : Nat) : Int)))
 (h11 : (InI64 (((i : Nat) : Int) + (9 : Int))))
 (h12 : ((0 : Int) ≤ (((i : Nat) : Int) + (9 : Int))))
 (h13 : ((((i : Nat) : Int) + (9 : Int)) < (((64 : Nat) : Nat) : Int)))
 (h14 : ((0 : Int) ≤ (((i : Nat) : Int) + (16 : Int))))
 (h15 : ((((i : Nat) : Int) + (16 : Int)) < (((64 : Nat) : Nat) : Int)))
 (h16 : ((List.set w (Int.toNat (((i : Nat) : Int) + (16 : Int))) (Go.IntKind.wrap Go.IntKind.u32 ((Go.IntKind.wrap Go.IntKind.u32 ((Go.IntKind.wrap Go.IntKind.u32 ((List.getD w (Int.toNat ((i : Nat) : Int)) (0 : Int)) + (bitsOf Go.BinOp.xor Go.IntKind.u32 (bitsOf Go.BinOp.xor Go.IntKind.u32 (bitsOf Go.BinOp.or Go.IntKind.u32 (Go.IntKind.wrap Go.IntKind.u32 ((List.getD w (Int.toNat (((i : Nat) : Int) + (1 : Int))) (0 : Int)) * ((2 : Int) ^ (min (25 : Nat) (32 : Nat))))) (Int.fdiv (List.getD w (Int.toNat (((i : Nat) : Int) + (1 : Int))) (0 : Int)) ((2 : Int) ^ (min (7 : Nat) (32 : Nat))))) (bitsOf Go.BinOp.or Go.IntKind.u32 (Go.IntKind.wrap Go.IntKind.u32 ((List.getD w (Int.toNat (((i : Nat) : Int) + (1 : Int))) (0 : Int)) * ((2 : Int) ^ (min (14 : Nat) (32 : Nat))))) (Int.fdiv (List.getD w (Int.toNat (((i : Nat) : Int) + (1 : Int))) (0 : Int)) ((2 : Int) ^ (min (18 : Nat) (32 : Nat)))))) (Int.fdiv (List.getD w (Int.toNat (((i : Nat) : Int) + (1 : Int))) (0 : Int)) ((2 : Int) ^ (min (3 : Nat) (32 : Nat))))))) + (List.getD w (Int.toNat (((i : Nat) : Int) + (9 : Int))) (0 : Int)))) + (bitsOf Go.BinOp.xor Go.IntKind.u32 (bitsOf Go.BinOp.xor Go.IntKind.u32 (bitsOf Go.BinOp.or Go.IntKind.u32 (Go.IntKind.wrap Go.IntKind.u32 ((List.getD w (Int.toNat (((i : Nat) : Int) + (14 : Int))) (0 : Int)) * ((2 : Int) ^ (min (15 : Nat) (32 : Nat))))) (Int.fdiv (List.getD w (Int.toNat (((i : Nat) : Int) + (14 : Int))) (0 : Int)) ((2 : Int) ^ (min (17 : Nat) (32 : Nat))))) (bitsOf Go.BinOp.or Go.IntKind.u32 (Go.IntKind.wrap Go.IntKind.u32 ((List.getD w (Int.toNat (((i : Nat) : Int) + (14 : Int))) (0 : Int)) * ((2 : Int) ^ (min (13 : Nat) (32 : Nat))))) (Int.fdiv (List.getD w (Int.toNat (((i : Nat) : Int) + (14 : Int))) (0 : Int)) ((2 : Int) ^ (min (19 : Nat) (32 : Nat)))))) (Int.fdiv (List.getD w (Int.toNat (((i : Nat) : Int) + (14 : Int))) (0 : Int)) ((2 : Int) ^ (min (10 : Nat) (32 : Nat)))))))) = w')) :
 ∃ ps, stepPs Tryd.prog DS gamT 100 (bodyN Tryd.f48 2) 100 (tkSn s r n p w [slI 45 i]).st [.is true] .normal (tkSn s r n p w' [slI 45 ((i : Int) + 1)]) = some ps ∧ AllQ ps := ⟨_, by kernel_rfl, qc h1 (qc h2 (qc h3 (qc h4 (qc h5 (qc h6 (qc h7 (qc (show ((0 : Int) ≤ (bitsOf Go.BinOp.and Go.IntKind.u64 (Go.IntKind.wrap Go.IntKind.u64 (-(7 : Int))) (31 : Int))) from by decide) (qc (show ((0 : Int) ≤ (Go.IntKind.wrap Go.IntKind.u64 ((32 : Int) - (bitsOf Go.BinOp.and Go.IntKind.u64 (Go.IntKind.wrap Go.IntKind.u64 (-(7 : Int))) (31 : Int))))) from by decide) (qc (show ((0 : Int) ≤ (bitsOf Go.BinOp.and Go.IntKind.u64 (Go.IntKind.wrap Go.IntKind.u64 (-(18 : Int))) (31 : Int))) from by decide) (qc (show ((0 : Int) ≤ (Go.IntKind.wrap Go.IntKind.u64 ((32 : Int) - (bitsOf Go.BinOp.and Go.IntKind.u64 (Go.IntKind.wrap Go.IntKind.u64 (-(18 : Int))) (31 : Int))))) from by decide) (qc (show ((0 : Int) ≤ (bitsOf Go.BinOp.and Go.IntKind.u64 (Go.IntKind.wrap Go.IntKind.u64 (-(17 : Int))) (31 : Int))) from by decide) (qc (show ((0 : Int) ≤ (Go.IntKind.wrap Go.IntKind.u64 ((32 : Int) - (bitsOf Go.BinOp.and Go.IntKind.u64 (Go.IntKind.wrap Go.IntKind.u64 (-(17 : Int))) (31 : Int))))) from by decide) (qc (show ((0 : Int) ≤ (bitsOf Go.BinOp.and Go.IntKind.u64 (Go.IntKind.wrap Go.IntKind.u64 (-(19 : Int))) (31 : Int))) from by decide) (qc (show ((0 : Int) ≤ (Go.IntKind.wrap Go.IntKind.u64 ((32 : Int) - (bitsOf Go.BinOp.and Go.IntKind.u64 (Go.IntKind.wrap Go.IntKind.u64 (-(19 : Int))) (31 : Int))))) from by decide) (qc h8 (qc h9 (qc h10 (qc h11 (qc h12 (qc h13 (qc h14 (qc h15 (qc h2 (qc (Eq.refl ((((i : Nat) : Int) + (1 : Int)))) (qc (Eq.refl s) (qc (Eq.refl r) (qc (Eq.refl n) (qc (Eq.refl p) (qc h16 (qn))))))))))))))))))))))))))))))⟩
theorem t2_exit (s r p w : List Int) (n : Int) (i : Nat)
 (h1 : ((decide (((i : Nat) : Int) < (48 : Int))) = false)) :
 ∃ ps, stepPs Tryd.prog DS gamT 100 (bodyN Tryd.f48 2) 100 (tkSn s r n p w [slI 45 i]).st [.is false] (.exit 4) (tkSn s r n p w []) = some ps ∧ AllQ ps := ⟨_, by kernel_rfl, qc h1 (qc (Eq.refl s) (qc (Eq.refl r) (qc (Eq.refl n) (qc (Eq.refl p) (qc (Eq.refl w) (qn))))))⟩
theorem t3_round (s r w v v' : List Int) (n : Int) (i : Nat)
 (h1 : ((decide (((i : Nat) : Int) < (64 : Int))) = true))
 (h2 : ((0 : Int) ≤ ((i : Nat) : Int)))
 (h3 : (((i : Nat) : Int) < (((64 : Nat) : Nat) : Int)))
 (h4 : (InI64 (((i : Nat) : Int) + (1 : Int))))
 (h5 : (([(Go.IntKind.wrap Go.IntKind.u32 ((Go.IntKind.wrap Go.IntKind.u32 ((Go.IntKind.wrap Go.IntKind.u32 ((List.getD v (7 : Nat) (0 : Int)) + (bitsOf Go.BinOp.xor Go.IntKind.u32 (bitsOf Go.BinOp.xor Go.IntKind.u32 (bitsOf Go.BinOp.or Go.IntKind.u32 (Go.IntKind.wrap Go.IntKind.u32 ((List.getD v (4 : Nat) (0 : Int)) * ((2 : Int) ^ (min (26 : Nat) (32 : Nat))))) (Int.fdiv (List.getD v (4 : Nat) (0 : Int)) ((2 : Int) ^ (min (6 : Nat) (32 : Nat))))) (bitsOf Go.BinOp.or Go.IntKind.u32 (Go.IntKind.wrap Go.IntKind.u32 ((List.getD v (4 : Nat) (0 : Int)) * ((2 : Int) ^ (min (21 : Nat) (32 : Nat))))) (Int.fdiv (List.getD v (4 : Nat) (0 : Int)) ((2 : Int) ^ (min (11 : Nat) (32 : Nat)))))) (bitsOf Go.BinOp.or Go.IntKind.u32 (Go.IntKind.wrap Go.IntKind.u32 ((List.getD v (4 : Nat) (0 : Int)) * ((2 : Int) ^ (min (7 : Nat) (32 : Nat))))) (Int.fdiv (List.getD v (4 : Nat) (0 : Int)) ((2 : Int) ^ (min (25 : Nat) (32 : Nat)))))))) + (Go.IntKind.wrap Go.IntKind.u32 ((Go.IntKind.wrap Go.IntKind.u32 ((bitsOf Go.BinOp.xor Go.IntKind.u32 (bitsOf Go.BinOp.and Go.IntKind.u32 (List.getD v (4 : Nat) (0 : Int)) (List.getD v (5 : Nat) (0 : Int))) (bitsOf Go.BinOp.and Go.IntKind.u32 (bitsOf Go.BinOp.xor Go.IntKind.u32 (if (false = true) then (-(1 : Int)) else (if (false = true) then (((2 : Int) ^ ((32 : Nat) - (1 : Nat))) - (1 : Int)) else (((2 : Int) ^ (32 : Nat)) - (1 : Int)))) (List.getD v (4 : Nat) (0 : Int))) (List.getD v (6 : Nat) (0 : Int)))) + (List.getD ([(1116352408 : Int), (1899447441 : Int), (3049323471 : Int), (3921009573 : Int), (961987163 : Int), (1508970993 : Int), (2453635748 : Int), (2870763221 : Int), (3624381080 : Int), (310598401 : Int), (607225278 : Int), (1426881987 : Int), (1925078388 : Int), (2162078206 : Int), (2614888103 : Int), (3248222580 : Int), (3835390401 : Int), (4022224774 : Int), (264347078 : Int), (604807628 : Int), (770255983 : Int), (1249150122 : Int), (1555081692 : Int), (1996064986 : Int), (2554220882 : Int), (2821834349 : Int), (2952996808 : Int), (3210313671 : Int), (3336571891 : Int), (3584528711 : Int), (113926993 : Int), (338241895 : Int), (666307205 : Int), (773529912 : Int), (1294757372 : Int), (1396182291 : Int), (1695183700 : Int), (1986661051 : Int), (2177026350 : Int), (2456956037 : Int), (2730485921 : Int), (2820302411 : Int), (3259730800 : Int), (3345764771 : Int), (3516065817 : Int), (3600352804 : Int), (4094571909 : Int), (275423344 : Int), (430227734 : Int), (506948616 : Int), (659060556 : Int), (883997877 : Int), (958139571 : Int), (1322822218 : Int), (1537002063 : Int), (1747873779 : Int), (1955562222 : Int), (2024104815 : Int), (2227730452 : Int), (2361852424 : Int), (2428436474 : Int), (2756734187 : Int), (3204031479 : Int), (3329325298 : Int)] : List Int) (Int.toNat ((i : Nat) : Int)) (0 : Int)))) + (List.getD w (Int.toNat ((i : Nat) : Int)) (0 : Int)))))) + (Go.IntKind.wrap Go.IntKind.u32 ((bitsOf Go.BinOp.xor Go.IntKind.u32 (bitsOf Go.BinOp.xor Go.IntKind.u32 (bitsOf Go.BinOp.or Go.IntKind.u32 (Go.IntKind.wrap Go.IntKind.u32 ((List.getD v (0 : Nat) (0 : Int)) * ((2 : Int) ^ (min (30 : Nat) (32 : Nat))))) (Int.fdiv (List.getD v (0 : Nat) (0 : Int)) ((2 : Int) ^ (min (2 : Nat) (32 : Nat))))) (bitsOf Go.BinOp.or Go.IntKind.u32 (Go.IntKind.wrap Go.IntKind.u32 ((List.getD v (0 : Nat) (0 : Int)) * ((2 : Int) ^ (min (19 : Nat) (32 : Nat))))) (Int.fdiv (List.getD v (0 : Nat) (0 : Int)) ((2 : Int) ^ (min (13 : Nat) (32 : Nat)))))) (bitsOf Go.BinOp.or Go.IntKind.u32 (Go.IntKind.wrap Go.IntKind.u32 ((List.getD v (0 : Nat) (0 : Int)) * ((2 : Int) ^ (min (10 : Nat) (32 : Nat))))) (Int.fdiv (List.getD v (0 : Nat) (0 : Int)) ((2 : Int) ^ (min (22 : Nat) (32 : Nat)))))) + (bitsOf Go.BinOp.xor Go.IntKind.u32 (bitsOf Go.BinOp.xor Go.IntKind.u32 (bitsOf Go.BinOp.and Go.IntKind.u32 (List.getD v (0 : Nat) (0 : Int)) (List.getD v (1 : Nat) (0 : Int))) (bitsOf Go.BinOp.and Go.IntKind.u32 (List.getD v (0 : Nat) (0 : Int)) (List.getD v (2 : Nat) (0 : Int)))) (bitsOf Go.BinOp.and Go.IntKind.u32 (List.getD v (1 : Nat) (0 : Int)) (List.getD v (2 : Nat) (0 : Int)))))))), (List.getD v (0 : Nat) (0 : Int)), (List.getD v (1 : Nat) (0 : Int)), (List.getD v (2 : Nat) (0 : Int)), (Go.IntKind.wrap Go.IntKind.u32 ((List.getD v (3 : Nat) (0 : Int)) + (Go.IntKind.wrap Go.IntKind.u32 ((Go.IntKind.wrap Go.IntKind.u32 ((List.getD v (7 : Nat) (0 : Int)) + (bitsOf Go.BinOp.xor Go.IntKind.u32 (bitsOf Go.BinOp.xor Go.IntKind.u32 (bitsOf Go.BinOp.or Go.IntKind.u32 (Go.IntKind.wrap Go.IntKind.u32 ((List.getD v (4 : Nat) (0 : Int)) * ((2 : Int) ^ (min (26 : Nat) (32 : Nat))))) (Int.fdiv (List.getD v (4 : Nat) (0 : Int)) ((2 : Int) ^ (min (6 : Nat) (32 : Nat))))) (bitsOf Go.BinOp.or Go.IntKind.u32 (Go.IntKind.wrap Go.IntKind.u32 ((List.getD v (4 : Nat) (0 : Int)) * ((2 : Int) ^ (min (21 : Nat) (32 : Nat))))) (Int.fdiv (List.getD v (4 : Nat) (0 : Int)) ((2 : Int) ^ (min (11 : Nat) (32 : Nat)))))) (bitsOf Go.BinOp.or Go.IntKind.u32 (Go.IntKind.wrap Go.IntKind.u32 ((List.getD v (4 : Nat) (0 : Int)) * ((2 : Int) ^ (min (7 : Nat) (32 : Nat))))) (Int.fdiv (List.getD v (4 : Nat) (0 : Int)) ((2 : Int) ^ (min (25 : Nat) (32 : Nat)))))))) + (Go.IntKind.wrap Go.IntKind.u32 ((Go.IntKind.wrap Go.IntKind.u32 ((bitsOf Go.BinOp.xor Go.IntKind.u32 (bitsOf Go.BinOp.and Go.IntKind.u32 (List.getD v (4 : Nat) (0 : Int)) (List.getD v (5 : Nat) (0 : Int))) (bitsOf Go.BinOp.and Go.IntKind.u32 (bitsOf Go.BinOp.xor Go.IntKind.u32 (if (false = true) then (-(1 : Int)) else (if (false = true) then (((2 : Int) ^ ((32 : Nat) - (1 : Nat))) - (1 : Int)) else (((2 : Int) ^ (32 : Nat)) - (1 : Int)))) (List.getD v (4 : Nat) (0 : Int))) (List.getD v (6 : Nat) (0 : Int)))) + (List.getD ([(1116352408 : Int), (1899447441 : Int), (3049323471 : Int), (3921009573 : Int), (961987163 : Int), (1508970993 : Int), (2453635748 : Int), (2870763221 : Int), (3624381080 : Int), (310598401 : Int), (607225278 : Int), (1426881987 : Int), (1925078388 : Int), (2162078206 : Int), (2614888103 : Int), (3248222580 : Int), (3835390401 : Int), (4022224774 : Int), (264347078 : Int), (604807628 : Int), (770255983 : Int), (1249150122 : Int), (1555081692 : Int), (1996064986 : Int), (2554220882 : Int), (2821834349 : Int), (2952996808 : Int), (3210313671 : Int), (3336571891 : Int), (3584528711 : Int), (113926993 : Int), (338241895 : Int), (666307205 : Int), (773529912 : Int), (1294757372 : Int), (1396182291 : Int), (1695183700 : Int), (1986661051 : Int), (2177026350 : Int), (2456956037 : Int), (2730485921 : Int), (2820302411 : Int), (3259730800 : Int), (3345764771 : Int), (3516065817 : Int), (3600352804 : Int), (4094571909 : Int), (275423344 : Int), (430227734 : Int), (506948616 : Int), (659060556 : Int), (883997877 : Int), (958139571 : Int), (1322822218 : Int), (1537002063 : Int), (1747873779 : Int), (1955562222 : Int), (2024104815 : Int), (2227730452 : Int), (2361852424 : Int), (2428436474 : Int), (2756734187 : Int), (3204031479 : Int), (3329325298 : Int)] : List Int) (Int.toNat ((i : Nat) : Int)) (0 : Int)))) + (List.getD w (Int.toNat ((i : Nat) : Int)) (0 : Int)))))))), (List.getD v (4 : Nat) (0 : Int)), (List.getD v (5 : Nat) (0 : Int)), (List.getD v (6 : Nat) (0 : Int))] : List Int) = v')) :
 ∃ ps, stepPs Tryd.prog DS gamT 100 (bodyN Tryd.f48 3) 100 (tk3Sn s r n w v [slI 92 i]).st [.is true] .normal (tk3Sn s r n w v' [slI 92 ((i : Int) + 1)]) = some ps ∧ AllQ ps := ⟨_, by kernel_rfl, qc h1 (qc (show ((0 : Int) ≤ (bitsOf Go.BinOp.and Go.IntKind.u64 (Go.IntKind.wrap Go.IntKind.u64 (-(6 : Int))) (31 : Int))) from by decide) (qc (show ((0 : Int) ≤ (Go.IntKind.wrap Go.IntKind.u64 ((32 : Int) - (bitsOf Go.BinOp.and Go.IntKind.u64 (Go.IntKind.wrap Go.IntKind.u64 (-(6 : Int))) (31 : Int))))) from by decide) (qc (show ((0 : Int) ≤ (bitsOf Go.BinOp.and Go.IntKind.u64 (Go.IntKind.wrap Go.IntKind.u64 (-(11 : Int))) (31 : Int))) from by decide) (qc (show ((0 : Int) ≤ (Go.IntKind.wrap Go.IntKind.u64 ((32 : Int) - (bitsOf Go.BinOp.and Go.IntKind.u64 (Go.IntKind.wrap Go.IntKind.u64 (-(11 : Int))) (31 : Int))))) from by decide) (qc (show ((0 : Int) ≤ (bitsOf Go.BinOp.and Go.IntKind.u64 (Go.IntKind.wrap Go.IntKind.u64 (-(25 : Int))) (31 : Int))) from by decide) (qc (show ((0 : Int) ≤ (Go.IntKind.wrap Go.IntKind.u64 ((32 : Int) - (bitsOf Go.BinOp.and Go.IntKind.u64 (Go.IntKind.wrap Go.IntKind.u64 (-(25 : Int))) (31 : Int))))) from by decide) (qc h2 (qc h3 (qc h2 (qc h3 (qc (show ((0 : Int) ≤ (bitsOf Go.BinOp.and Go.IntKind.u64 (Go.IntKind.wrap Go.IntKind.u64 (-(2 : Int))) (31 : Int))) from by decide) (qc (show ((0 : Int) ≤ (Go.IntKind.wrap Go.IntKind.u64 ((32 : Int) - (bitsOf Go.BinOp.and Go.IntKind.u64 (Go.IntKind.wrap Go.IntKind.u64 (-(2 : Int))) (31 : Int))))) from by decide) (qc (show ((0 : Int) ≤ (bitsOf Go.BinOp.and Go.IntKind.u64 (Go.IntKind.wrap Go.IntKind.u64 (-(13 : Int))) (31 : Int))) from by decide) (qc (show ((0 : Int) ≤ (Go.IntKind.wrap Go.IntKind.u64 ((32 : Int) - (bitsOf Go.BinOp.and Go.IntKind.u64 (Go.IntKind.wrap Go.IntKind.u64 (-(13 : Int))) (31 : Int))))) from by decide) (qc (show ((0 : Int) ≤ (bitsOf Go.BinOp.and Go.IntKind.u64 (Go.IntKind.wrap Go.IntKind.u64 (-(22 : Int))) (31 : Int))) from by decide) (qc (show ((0 : Int) ≤ (Go.IntKind.wrap Go.IntKind.u64 ((32 : Int) - (bitsOf Go.BinOp.and Go.IntKind.u64 (Go.IntKind.wrap Go.IntKind.u64 (-(22 : Int))) (31 : Int))))) from by decide) (qc h4 (qc (Eq.refl ((((i : Nat) : Int) + (1 : Int)))) (qc (Eq.refl s) (qc (Eq.refl r) (qc (Eq.refl n) (qc (Eq.refl w) (qc h5 (qn))))))))))))))))))))))))⟩
theorem t3_exit (s r w v : List Int) (n : Int) (i : Nat)
 (h1 : ((decide (((i : Nat) : Int) < (64 : Int))) = false)) :
 ∃ ps, stepPs Tryd.prog DS gamT 100 (bodyN Tryd.f48 3) 100 (tk3Sn s r n w v [slI 92 i]).st [.is false] (.exit 6) (tk3Sn s r n w v []) = some ps ∧ AllQ ps := ⟨_, by kernel_rfl, qc h1 (qc (Eq.refl s) (qc (Eq.refl r) (qc (Eq.refl n) (qc (Eq.refl w) (qc (Eq.refl v) (qn))))))⟩
theorem t4_round (s r w v s' : List Int) (n : Int) (i : Nat)
 (h1 : ((decide (((i : Nat) : Int) < (8 : Int))) = true))
 (h2 : ((0 : Int) ≤ ((i : Nat) : Int)))
 (h3 : (((i : Nat) : Int) < (((8 : Nat) : Nat) : Int)))
 (h4 : (InI64 (((i : Nat) : Int) + (1 : Int))))
 (h5 : ((List.set s (Int.toNat ((i : Nat) : Int)) (Go.IntKind.wrap Go.IntKind.u32 ((List.getD s (Int.toNat ((i : Nat) : Int)) (0 : Int)) + (List.getD v (Int.toNat ((i : Nat) : Int)) (0 : Int))))) = s')) :
 ∃ ps, stepPs Tryd.prog DS gamT 100 (bodyN Tryd.f48 4) 100 (tk3Sn s r n w v [slI 172 i]).st [.is true] .normal (tk3Sn s' r n w v [slI 172 ((i : Int) + 1)]) = some ps ∧ AllQ ps := ⟨_, by kernel_rfl, qc h1 (qc h2 (qc h3 (qc h2 (qc h3 (qc h2 (qc h3 (qc h4 (qc (Eq.refl ((((i : Nat) : Int) + (1 : Int)))) (qc h5 (qc (Eq.refl r) (qc (Eq.refl n) (qc (Eq.refl w) (qc (Eq.refl v) (qn))))))))))))))⟩
theorem t4_exit (s r w v : List Int) (n : Int) (i : Nat)
 (h1 : ((decide (((i : Nat) : Int) < (8 : Int))) = false)) :
 ∃ ps, stepPs Tryd.prog DS gamT 100 (bodyN Tryd.f48 4) 100 (tk3Sn s r n w v [slI 172 i]).st [.is false] (.exit 8) (tk3Sn s r n w v []) = some ps ∧ AllQ ps := ⟨_, by kernel_rfl, qc h1 (qc (Eq.refl s) (qc (Eq.refl r) (qc (Eq.refl n) (qc (Eq.refl w) (qc (Eq.refl v) (qn))))))⟩
theorem take_run (s r p w0 w16 w64 v64 s' : List Int) (n : Int)
 (h1 : SumOK Tryd.prog DS (bodyN Tryd.f48 0) (loopL DS (tkSn s r n p w0 [slI 23 (0 : Nat)]) (.exit 0) (tkSn s r n p w16 [])))
 (h2 : (([(0 : Int), (0 : Int), (0 : Int), (0 : Int), (0 : Int), (0 : Int), (0 : Int), (0 : Int), (0 : Int), (0 : Int), (0 : Int), (0 : Int), (0 : Int), (0 : Int), (0 : Int), (0 : Int), (0 : Int), (0 : Int), (0 : Int), (0 : Int), (0 : Int), (0 : Int), (0 : Int), (0 : Int), (0 : Int), (0 : Int), (0 : Int), (0 : Int), (0 : Int), (0 : Int), (0 : Int), (0 : Int), (0 : Int), (0 : Int), (0 : Int), (0 : Int), (0 : Int), (0 : Int), (0 : Int), (0 : Int), (0 : Int), (0 : Int), (0 : Int), (0 : Int), (0 : Int), (0 : Int), (0 : Int), (0 : Int), (0 : Int), (0 : Int), (0 : Int), (0 : Int), (0 : Int), (0 : Int), (0 : Int), (0 : Int), (0 : Int), (0 : Int), (0 : Int), (0 : Int), (0 : Int), (0 : Int), (0 : Int), (0 : Int)] : List Int) = w0))
 (h3 : SumOK Tryd.prog DS (bodyN Tryd.f48 2) (loopL DS (tkSn s r n p w16 [slI 45 (0 : Nat)]) (.exit 4) (tkSn s r n p w64 [])))
 (h4 : SumOK Tryd.prog DS (bodyN Tryd.f48 3) (loopL DS (tk3Sn s r n w64 s [slI 92 (0 : Nat)]) (.exit 6) (tk3Sn s r n w64 v64 [])))
 (h5 : SumOK Tryd.prog DS (bodyN Tryd.f48 4) (loopL DS (tk3Sn s r n w64 v64 [slI 172 (0 : Nat)]) (.exit 8) (tk3Sn s' r n w64 v64 []))) :
 ∃ ps, runO Tryd.prog DS gamT 100 Tryd.f48 ([.fixed 80 (hashP s r n)], [.one (.ref 0 0), .agg [.arr .u8 64 p]]) [.loop (loopL DS (tkSn s r n p w0 [slI 23 (0 : Nat)]) (.exit 0) (tkSn s r n p w16 [])), .loop (loopL DS (tkSn s r n p w16 [slI 45 (0 : Nat)]) (.exit 4) (tkSn s r n p w64 [])), .loop (loopL DS (tk3Sn s r n w64 s [slI 92 (0 : Nat)]) (.exit 6) (tk3Sn s r n w64 v64 [])), .loop (loopL DS (tk3Sn s r n w64 v64 [slI 172 (0 : Nat)]) (.exit 8) (tk3Sn s' r n w64 v64 []))] (.tup []) [.fixed 80 (hashP s' r n)] = some ps ∧ AllQ ps := ⟨_, by kernel_rfl, qc h1 (qc (show ((0 : Int) = (((0 : Nat) : Nat) : Int)) from by decide) (qc (Eq.refl s) (qc (Eq.refl r) (qc (Eq.refl n) (qc (Eq.refl p) (qc h2 (qc h3 (qc (show ((0 : Int) = (((0 : Nat) : Nat) : Int)) from by decide) (qc (Eq.refl s) (qc (Eq.refl r) (qc (Eq.refl n) (qc (Eq.refl p) (qc (Eq.refl w16) (qc h4 (qc (show ((0 : Int) = (((0 : Nat) : Nat) : Int)) from by decide) (qc (Eq.refl s) (qc (Eq.refl r) (qc (Eq.refl n) (qc (Eq.refl w64) (qc (Eq.refl s) (qc h5 (qc (show ((0 : Int) = (((0 : Nat) : Nat) : Int)) from by decide) (qc (Eq.refl s) (qc (Eq.refl r) (qc (Eq.refl n) (qc (Eq.refl w64) (qc (Eq.refl v64) (qc (Eq.refl (s')) (qc (Eq.refl r) (qc (Eq.refl n) (qn)))))))))))))))))))))))))))))))⟩
end Go.Num
namespace Go.Num
open Go.Abs Go.Proofs Go.Shelf
def sft (x : Int) (l r : Nat) : Int := bitsOf .or .u32 (IntKind.u32.wrap (x * 2 ^ min l 32)) (x.fdiv (2 ^ min r 32))
def xr (a b : Int) : Int := bitsOf .xor .u32 a b
def an (a b : Int) : Int := bitsOf .and .u32 a b
def ad (a b : Int) : Int := IntKind.u32.wrap (a + b)
def nt (a : Int) : Int := bitsOf .xor .u32 4294967295 a
def tw1 (p w : List Int) (i : Int) : Nat → List Int
  | 0 => w
  | j + 1 => (tw1 p w i j).set i.toNat (bitsOf .or .u32 (IntKind.u32.wrap ((tw1 p w i j).getD i.toNat 0 * 2 ^ min 8 32)) (IntKind.u32.wrap (p.getD (4 * i + (j : Int)).toNat 0)))
def tw0 (p : List Int) : Nat → List Int
  | 0 => List.replicate 64 0
  | i + 1 => tw1 p (tw0 p i) i 4
def twStep (w : List Int) (i : Nat) : List Int :=
  w.set ((i : Int) + 16).toNat (ad (ad (ad (w.getD (i : Int).toNat 0) (xr (xr (sft (w.getD ((i : Int) + 1).toNat 0) 25 7) (sft (w.getD ((i : Int) + 1).toNat 0) 14 18)) ((w.getD ((i : Int) + 1).toNat 0).fdiv (2 ^ min 3 32)))) (w.getD ((i : Int) + 9).toNat 0))
    (xr (xr (sft (w.getD ((i : Int) + 14).toNat 0) 15 17) (sft (w.getD ((i : Int) + 14).toNat 0) 13 19)) ((w.getD ((i : Int) + 14).toNat 0).fdiv (2 ^ min 10 32))))
def tw2 (w : List Int) : Nat → List Int
  | 0 => w
  | i + 1 => twStep (tw2 w i) i
def tvT (w v : List Int) (i : Nat) : Int :=
  ad (ad (v.getD 7 0) (xr (xr (sft (v.getD 4 0) 26 6) (sft (v.getD 4 0) 21 11)) (sft (v.getD 4 0) 7 25))) (ad (ad (xr (an (v.getD 4 0) (v.getD 5 0)) (an (nt (v.getD 4 0)) (v.getD 6 0))) (rootsL.getD (i : Int).toNat 0)) (w.getD (i : Int).toNat 0))
def tvU (v : List Int) : Int :=
  ad (xr (xr (sft (v.getD 0 0) 30 2) (sft (v.getD 0 0) 19 13)) (sft (v.getD 0 0) 10 22)) (xr (xr (an (v.getD 0 0) (v.getD 1 0)) (an (v.getD 0 0) (v.getD 2 0))) (an (v.getD 1 0) (v.getD 2 0)))
def tvStep (w v : List Int) (i : Nat) : List Int :=
  [ad (tvT w v i) (tvU v), v.getD 0 0, v.getD 1 0, v.getD 2 0, ad (v.getD 3 0) (tvT w v i), v.getD 4 0, v.getD 5 0, v.getD 6 0]
def tv3 (w v : List Int) : Nat → List Int
  | 0 => v
  | i + 1 => tvStep w (tv3 w v i) i
def ts4 (s v : List Int) : Nat → List Int
  | 0 => s
  | i + 1 => (ts4 s v i).set (i : Int).toNat (ad ((ts4 s v i).getD (i : Int).toNat 0) (v.getD (i : Int).toNat 0))
def takeF (s p : List Int) : List Int := ts4 s (tv3 (tw2 (tw0 p 16) 48) s 64) 8
theorem inI64_small {x : Int} (h0 : 0 ≤ x) (h1 : x < 1000000) : InI64 x := ⟨by omega, by omega⟩
theorem take_l1 (s r p w : List Int) (n : Int) (i : Nat) (hi : i < 16) : SumOK Tryd.prog DS (bodyN Tryd.f48 1) (loopL DS (tkSn s r n p w [slI 23 i, slI 5 i, slI 26 (0 : Nat)]) (.exit 2) (tkSn s r n p (tw1 p w i 4) [slI 23 i])) := by
  refine sum_loop gamT_ok mixed (fun j => tkSn s r n p (tw1 p w i j) [slI 23 i, slI 5 i, slI 26 j]) 4 rfl (fun j hj => ?_) ?_
  · exact ⟨_, _, _, t1_round s r p (tw1 p w i j) (tw1 p w i (j + 1)) n i j (decide_eq_true (by omega)) (by omega) (by omega) (inI64_small (by omega) (by omega)) (inI64_small (by omega) (by omega)) (by omega) (by omega) (inI64_small (by omega) (by omega)) rfl⟩
  · exact ⟨_, _, _, t1_exit s r p (tw1 p w i 4) n i 4 (decide_eq_false (by omega))⟩
theorem take_l0 (s r p : List Int) (n : Int) : SumOK Tryd.prog DS (bodyN Tryd.f48 0) (loopL DS (tkSn s r n p (tw0 p 0) [slI 23 (0 : Nat)]) (.exit 0) (tkSn s r n p (tw0 p 16) [])) := by
  refine sum_loop gamT_ok mixed (fun i => tkSn s r n p (tw0 p i) [slI 23 i]) 16 rfl (fun i hi => ?_) ?_
  · exact ⟨_, _, _, t0_round s r p (tw0 p i) (tw0 p (i + 1)) n i (decide_eq_true (by omega)) (take_l1 s r p (tw0 p i) n i hi) (inI64_small (by omega) (by omega))⟩
  · exact ⟨_, _, _, t0_exit s r p (tw0 p 16) n 16 (decide_eq_false (by omega))⟩
theorem take_l2 (s r p w : List Int) (n : Int) : SumOK Tryd.prog DS (bodyN Tryd.f48 2) (loopL DS (tkSn s r n p w [slI 45 (0 : Nat)]) (.exit 4) (tkSn s r n p (tw2 w 48) [])) := by
  refine sum_loop gamT_ok mixed (fun i => tkSn s r n p (tw2 w i) [slI 45 i]) 48 rfl (fun i hi => ?_) ?_
  · exact ⟨_, _, _, t2_round s r p (tw2 w i) (tw2 w (i + 1)) n i (decide_eq_true (by omega)) (inI64_small (by omega) (by omega)) (by omega) (by omega) (inI64_small (by omega) (by omega)) (by omega) (by omega) (inI64_small (by omega) (by omega)) (by omega) (by omega) (inI64_small (by omega) (by omega)) (by omega) (by omega) (by omega) (by omega) rfl⟩
  · exact ⟨_, _, _, t2_exit s r p (tw2 w 48) n 48 (decide_eq_false (by omega))⟩
theorem take_l3 (s r w : List Int) (n : Int) : SumOK Tryd.prog DS (bodyN Tryd.f48 3) (loopL DS (tk3Sn s r n w s [slI 92 (0 : Nat)]) (.exit 6) (tk3Sn s r n w (tv3 w s 64) [])) := by
  refine sum_loop gamT_ok mixed (fun i => tk3Sn s r n w (tv3 w s i) [slI 92 i]) 64 rfl (fun i hi => ?_) ?_
  · exact ⟨_, _, _, t3_round s r w (tv3 w s i) (tv3 w s (i + 1)) n i (decide_eq_true (by omega)) (by omega) (by omega) (inI64_small (by omega) (by omega)) rfl⟩
  · exact ⟨_, _, _, t3_exit s r w (tv3 w s 64) n 64 (decide_eq_false (by omega))⟩
theorem take_l4 (s r w v : List Int) (n : Int) : SumOK Tryd.prog DS (bodyN Tryd.f48 4) (loopL DS (tk3Sn s r n w v [slI 172 (0 : Nat)]) (.exit 8) (tk3Sn (ts4 s v 8) r n w v [])) := by
  refine sum_loop gamT_ok mixed (fun i => tk3Sn (ts4 s v i) r n w v [slI 172 i]) 8 rfl (fun i hi => ?_) ?_
  · exact ⟨_, _, _, t4_round (ts4 s v i) r w v (ts4 s v (i + 1)) n i (decide_eq_true (by omega)) (by omega) (by omega) (inI64_small (by omega) (by omega)) rfl⟩
  · exact ⟨_, _, _, t4_exit (ts4 s v 8) r w v n 8 (decide_eq_false (by omega))⟩
def hashOf (ps : List (Part DS.τ)) : Option (List Int × List Int × Int) :=
  match intsAt DS ps 0 8 with
  | some (_, s) => match intsAt DS ps 8 64 with
    | some (_, r) => match splitP DS ps 72 1 with
      | some (_, [.int .i64 _ n], _) => some (s, r, n)
      | _ => none
    | none => none
  | none => none
def takeRd : List (BoxSt DS.τ) → List (A0 DS.τ) → Option (List Int × List Int × Int × List Int)
  | [.fixed _ ps], [.one (.ref 0 0), .agg qs] => match hashOf ps with
    | some (s, r, n) => match allInts .u8 qs with
      | some p => some (s, r, n, p)
      | none => none
    | none => none
  | _, _ => none
def takePre (t : List Int × List Int × Int × List Int) : List (BoxSt DS.τ) × List (A0 DS.τ) :=
  ([.fixed 80 (hashP t.1 t.2.1 t.2.2.1)], [.one (.ref 0 0), .agg [.arr .u8 64 t.2.2.2]])
def takePost (t : List Int × List Int × Int × List Int) : Option (AV DS.τ × List (BoxSt DS.τ) × List Prop) :=
  some (.tup [], [.fixed 80 (hashP (takeF t.1 t.2.2.2) t.2.1 t.2.2.1)], [])
noncomputable def takeD := mkF DS Tryd.f48.ntmps takeRd takePre takePost
theorem take_ok : OpOK Tryd.prog DS 48 takeD := by
  refine opOK_mk gamT_ok mixed Tryd.func48 (enters_of Tryd.func48 (by kernel_rfl) rfl) ?_
  rintro ⟨s, r, n, p⟩ r' bs' ps h hps
  simp only [takePost, Option.some.injEq, Prod.mk.injEq] at h
  obtain ⟨rfl, rfl, rfl⟩ := h
  exact ⟨_, _, take_run s r p (tw0 p 0) (tw0 p 16) (tw2 (tw0 p 16) 48) (tv3 (tw2 (tw0 p 16) 48) s 64) (takeF s p) n (take_l0 s r p n) rfl (take_l2 s r p _ n) (take_l3 s r _ n) (take_l4 s r _ _ n)⟩
end Go.Num
namespace Go.Num
open Go.Abs Go.Proofs Go.Shelf
noncomputable def gamW : Gam DS := [(48, .op [true, false] takeD)]
theorem gamW_ok : GamOK Tryd.prog DS gamW := gam_op take_ok gam_nil
def wrSn (s r l : List Int) (n : Int) : Sn DS.τ where
  slots := [(0, .v (.one (.ref 0 0))), (1, .v (.one (.words .u8 l)))]
  boxes := [(0, .fixed 80 (hashP s r n))]
  nt := 69
  np := 1
def wrPre (s r l : List Int) (n : Int) : List (BoxSt DS.τ) × List (A0 DS.τ) := ([.fixed 80 (hashP s r n)], [.one (.ref 0 0), .one (.words .u8 l)])
theorem wr_round (s r l s' l' : List Int) (n : Int)
 (h1 : ((decide ((((List.length l) : Nat) : Int) ≥ (64 : Int))) = true))
 (h2 : ((64 : Nat) ≤ (List.length l)))
 (h3 : ((64 : Int) ≤ (((List.length l) : Nat) : Int)))
 (h4 : ((((List.length l) : Nat) : Int) ≤ (((List.length l) : Nat) : Int)))
 (h5 : ((List.drop (64 : Nat) (List.take (Int.toNat (((List.length l) : Nat) : Int)) l)) = l'))
 (h6 : ((ts4 s (tv3 (tw2 (tw0 (List.take (64 : Nat) l) (16 : Nat)) (48 : Nat)) s (64 : Nat)) (8 : Nat)) = s')) :
 ∃ ps, stepPs Tryd.prog DS gamW 100 (bodyN Tryd.f42 0) 100 (wrSn s r l n).st [.is true] .normal (wrSn s' r l' n) = some ps ∧ AllQ ps := ⟨_, by kernel_rfl, qc h1 (qc h2 (qc (Eq.refl ((List.take (64 : Nat) l))) (qc (Eq.refl s) (qc (Eq.refl r) (qc (Eq.refl n) (qc (show ((0 : Int) ≤ (64 : Int)) from by decide) (qc h3 (qc h4 (qc h5 (qc h6 (qc (Eq.refl r) (qc (Eq.refl n) (qn)))))))))))))⟩
theorem wr_exit (s r l : List Int) (n : Int)
 (h1 : ((decide ((((List.length l) : Nat) : Int) ≥ (64 : Int))) = false)) :
 ∃ ps, stepPs Tryd.prog DS gamW 100 (bodyN Tryd.f42 0) 100 (wrSn s r l n).st [.is false] (.exit 0) (wrSn s r l n) = some ps ∧ AllQ ps := ⟨_, by kernel_rfl, qc h1 (qc (Eq.refl l) (qc (Eq.refl s) (qc (Eq.refl r) (qc (Eq.refl n) (qn)))))⟩
theorem wr_new (s r l s' r' l' : List Int) (n n1 : Int)
 (h1 : ((n == (0 : Int)) = true))
 (h2 : (InI64 (n + (((List.length l) : Nat) : Int))))
 (h3 : ((decide ((Int.tmod n (64 : Int)) > (0 : Int))) = false))
 (h4 : SumOK Tryd.prog DS (bodyN Tryd.f42 0) (loopL DS (wrSn firstL r l n1) (.exit 0) (wrSn s' r l' n1)))
 (h5 : ((n + (((List.length l) : Nat) : Int)) = n1))
 (h6 : ((((List.take (0 : Nat) r) ++ (List.take ((64 : Nat) - (0 : Nat)) l')) ++ (List.drop ((0 : Nat) + (List.length (List.take ((64 : Nat) - (0 : Nat)) l'))) r)) = r')) :
 ∃ ps, runO Tryd.prog DS gamW 100 Tryd.f42 (wrPre s r l n) [.is true, .is false, .loop (loopL DS (wrSn firstL r l n1) (.exit 0) (wrSn s' r l' n1))] (.tup []) [.fixed 80 (hashP s' r' n1)] = some ps ∧ AllQ ps := ⟨_, by kernel_rfl, qc h1 (qc h2 (qc h3 (qc h4 (qc (Eq.refl l) (qc (Eq.refl (([(1779033703 : Int), (3144134277 : Int), (1013904242 : Int), (2773480762 : Int), (1359893119 : Int), (2600822924 : Int), (528734635 : Int), (1541459225 : Int)] : List Int))) (qc (Eq.refl r) (qc h5 (qc (show ((0 : Int) ≤ (0 : Int)) from by decide) (qc (show ((0 : Int) ≤ (((64 : Nat) : Nat) : Int)) from by decide) (qc (show ((((64 : Nat) : Nat) : Int) ≤ (((64 : Nat) : Nat) : Int)) from by decide) (qc (show ((0 : Int) < (((64 : Nat) : Nat) : Int)) from by decide) (qc (Eq.refl (s')) (qc h6 (qc (Eq.refl n1) (qn)))))))))))))))⟩
theorem wr_even (s r l s' r' l' : List Int) (n n1 : Int)
 (h1 : ((n == (0 : Int)) = false))
 (h2 : (InI64 (n + (((List.length l) : Nat) : Int))))
 (h3 : ((decide ((Int.tmod n (64 : Int)) > (0 : Int))) = false))
 (h4 : SumOK Tryd.prog DS (bodyN Tryd.f42 0) (loopL DS (wrSn s r l n1) (.exit 0) (wrSn s' r l' n1)))
 (h5 : ((n + (((List.length l) : Nat) : Int)) = n1))
 (h6 : ((((List.take (0 : Nat) r) ++ (List.take ((64 : Nat) - (0 : Nat)) l')) ++ (List.drop ((0 : Nat) + (List.length (List.take ((64 : Nat) - (0 : Nat)) l'))) r)) = r')) :
 ∃ ps, runO Tryd.prog DS gamW 100 Tryd.f42 (wrPre s r l n) [.is false, .is false, .loop (loopL DS (wrSn s r l n1) (.exit 0) (wrSn s' r l' n1))] (.tup []) [.fixed 80 (hashP s' r' n1)] = some ps ∧ AllQ ps := ⟨_, by kernel_rfl, qc h1 (qc h2 (qc h3 (qc h4 (qc (Eq.refl l) (qc (Eq.refl s) (qc (Eq.refl r) (qc h5 (qc (show ((0 : Int) ≤ (0 : Int)) from by decide) (qc (show ((0 : Int) ≤ (((64 : Nat) : Nat) : Int)) from by decide) (qc (show ((((64 : Nat) : Nat) : Int) ≤ (((64 : Nat) : Nat) : Int)) from by decide) (qc (show ((0 : Int) < (((64 : Nat) : Nat) : Int)) from by decide) (qc (Eq.refl (s')) (qc h6 (qc (Eq.refl n1) (qn)))))))))))))))⟩
theorem wr_few (s r l r' : List Int) (n n1 : Int)
 (h1 : ((n == (0 : Int)) = false))
 (h2 : (InI64 (n + (((List.length l) : Nat) : Int))))
 (h3 : ((decide ((Int.tmod n (64 : Int)) > (0 : Int))) = true))
 (h4 : ((0 : Int) ≤ (Int.tmod n (64 : Int))))
 (h5 : ((Int.tmod n (64 : Int)) ≤ (((64 : Nat) : Nat) : Int)))
 (h6 : ((Int.tmod n (64 : Int)) < (((64 : Nat) : Nat) : Int)))
 (h7 : (InI64 ((Int.tmod n (64 : Int)) + (((min ((64 : Nat) - (Int.toNat (Int.tmod n (64 : Int)))) (List.length l)) : Nat) : Int))))
 (h8 : ((decide (((Int.tmod n (64 : Int)) + (((min ((64 : Nat) - (Int.toNat (Int.tmod n (64 : Int)))) (List.length l)) : Nat) : Int)) < (64 : Int))) = true))
 (h9 : ((((List.take (Int.toNat (Int.tmod n (64 : Int))) r) ++ (List.take ((64 : Nat) - (Int.toNat (Int.tmod n (64 : Int)))) l)) ++ (List.drop ((Int.toNat (Int.tmod n (64 : Int))) + (List.length (List.take ((64 : Nat) - (Int.toNat (Int.tmod n (64 : Int)))) l))) r)) = r'))
 (h10 : ((n + (((List.length l) : Nat) : Int)) = n1)) :
 ∃ ps, runO Tryd.prog DS gamW 100 Tryd.f42 (wrPre s r l n) [.is false, .is true, .is true] (.tup []) [.fixed 80 (hashP s r' n1)] = some ps ∧ AllQ ps := ⟨_, by kernel_rfl, qc h1 (qc h2 (qc h3 (qc h4 (qc h5 (qc (show ((((64 : Nat) : Nat) : Int) ≤ (((64 : Nat) : Nat) : Int)) from by decide) (qc h6 (qc h7 (qc h8 (qc (Eq.refl s) (qc h9 (qc h10 (qn))))))))))))⟩
theorem wr_more (s r l s1 r1 l1 s' r' l' : List Int) (n n1 : Int)
 (h1 : ((n == (0 : Int)) = false))
 (h2 : (InI64 (n + (((List.length l) : Nat) : Int))))
 (h3 : ((decide ((Int.tmod n (64 : Int)) > (0 : Int))) = true))
 (h4 : ((0 : Int) ≤ (Int.tmod n (64 : Int))))
 (h5 : ((Int.tmod n (64 : Int)) ≤ (((64 : Nat) : Nat) : Int)))
 (h6 : ((Int.tmod n (64 : Int)) < (((64 : Nat) : Nat) : Int)))
 (h7 : (InI64 ((Int.tmod n (64 : Int)) + (((min ((64 : Nat) - (Int.toNat (Int.tmod n (64 : Int)))) (List.length l)) : Nat) : Int))))
 (h8 : ((decide (((Int.tmod n (64 : Int)) + (((min ((64 : Nat) - (Int.toNat (Int.tmod n (64 : Int)))) (List.length l)) : Nat) : Int)) < (64 : Int))) = false))
 (h9 : ((0 : Int) ≤ (((min ((64 : Nat) - (Int.toNat (Int.tmod n (64 : Int)))) (List.length l)) : Nat) : Int)))
 (h10 : ((((min ((64 : Nat) - (Int.toNat (Int.tmod n (64 : Int)))) (List.length l)) : Nat) : Int) ≤ (((List.length l) : Nat) : Int)))
 (h11 : ((((List.length l) : Nat) : Int) ≤ (((List.length l) : Nat) : Int)))
 (h12 : SumOK Tryd.prog DS (bodyN Tryd.f42 0) (loopL DS (wrSn s1 r1 l1 n1) (.exit 0) (wrSn s' r1 l' n1)))
 (h13 : ((List.drop (Int.toNat (((min ((64 : Nat) - (Int.toNat (Int.tmod n (64 : Int)))) (List.length l)) : Nat) : Int)) (List.take (Int.toNat (((List.length l) : Nat) : Int)) l)) = l1))
 (h14 : ((ts4 s (tv3 (tw2 (tw0 (((List.take (Int.toNat (Int.tmod n (64 : Int))) r) ++ (List.take ((64 : Nat) - (Int.toNat (Int.tmod n (64 : Int)))) l)) ++ (List.drop ((Int.toNat (Int.tmod n (64 : Int))) + (List.length (List.take ((64 : Nat) - (Int.toNat (Int.tmod n (64 : Int)))) l))) r)) (16 : Nat)) (48 : Nat)) s (64 : Nat)) (8 : Nat)) = s1))
 (h15 : ((((List.take (Int.toNat (Int.tmod n (64 : Int))) r) ++ (List.take ((64 : Nat) - (Int.toNat (Int.tmod n (64 : Int)))) l)) ++ (List.drop ((Int.toNat (Int.tmod n (64 : Int))) + (List.length (List.take ((64 : Nat) - (Int.toNat (Int.tmod n (64 : Int)))) l))) r)) = r1))
 (h16 : ((n + (((List.length l) : Nat) : Int)) = n1))
 (h17 : ((((List.take (0 : Nat) r1) ++ (List.take ((64 : Nat) - (0 : Nat)) l')) ++ (List.drop ((0 : Nat) + (List.length (List.take ((64 : Nat) - (0 : Nat)) l'))) r1)) = r')) :
 ∃ ps, runO Tryd.prog DS gamW 100 Tryd.f42 (wrPre s r l n) [.is false, .is true, .is false, .loop (loopL DS (wrSn s1 r1 l1 n1) (.exit 0) (wrSn s' r1 l' n1))] (.tup []) [.fixed 80 (hashP s' r' n1)] = some ps ∧ AllQ ps := ⟨_, by kernel_rfl, qc h1 (qc h2 (qc h3 (qc h4 (qc h5 (qc (show ((((64 : Nat) : Nat) : Int) ≤ (((64 : Nat) : Nat) : Int)) from by decide) (qc h6 (qc h7 (qc h8 (qc h9 (qc h10 (qc h11 (qc (Eq.refl ((((List.take (Int.toNat (Int.tmod n (64 : Int))) r) ++ (List.take ((64 : Nat) - (Int.toNat (Int.tmod n (64 : Int)))) l)) ++ (List.drop ((Int.toNat (Int.tmod n (64 : Int))) + (List.length (List.take ((64 : Nat) - (Int.toNat (Int.tmod n (64 : Int)))) l))) r)))) (qc (Eq.refl s) (qc (Eq.refl ((((List.take (Int.toNat (Int.tmod n (64 : Int))) r) ++ (List.take ((64 : Nat) - (Int.toNat (Int.tmod n (64 : Int)))) l)) ++ (List.drop ((Int.toNat (Int.tmod n (64 : Int))) + (List.length (List.take ((64 : Nat) - (Int.toNat (Int.tmod n (64 : Int)))) l))) r)))) (qc (Eq.refl ((n + (((List.length l) : Nat) : Int)))) (qc h12 (qc h13 (qc h14 (qc h15 (qc h16 (qc (show ((0 : Int) ≤ (0 : Int)) from by decide) (qc (show ((0 : Int) ≤ (((64 : Nat) : Nat) : Int)) from by decide) (qc (show ((((64 : Nat) : Nat) : Int) ≤ (((64 : Nat) : Nat) : Int)) from by decide) (qc (show ((0 : Int) < (((64 : Nat) : Nat) : Int)) from by decide) (qc (Eq.refl (s')) (qc h17 (qc (Eq.refl n1) (qn))))))))))))))))))))))))))))⟩
theorem wr_nil (l : List Int) :
 ∃ ps, runO Tryd.prog DS gamW 100 Tryd.f42 ([], [.one .nilp, .one (.words .u8 l)]) [] (.tup []) [] = some ps ∧ AllQ ps := ⟨_, by kernel_rfl, qn⟩
def eat (s l : List Int) : Nat → List Int
  | 0 => s
  | k + 1 => takeF (eat s l k) ((l.drop (64 * k)).take 64)
def eatAll (s r l : List Int) : List Int × List Int := (eat s l (l.length / 64), over r 0 ((l.drop (64 * (l.length / 64))).take 64))
def writeF (s r : List Int) (N : Nat) (l : List Int) : List Int × List Int :=
  if N % 64 = 0 then eatAll (if N = 0 then firstL else s) r l
  else if N % 64 + l.length < 64 then (s, over r (N % 64) (l.take (64 - N % 64)))
  else eatAll (takeF s (over r (N % 64) (l.take (64 - N % 64)))) (over r (N % 64) (l.take (64 - N % 64))) (l.drop (64 - N % 64))
def writeS (s r : List Int) (N : Nat) (l : List Int) : List Int := (writeF s r N l).1
def writeR (s r : List Int) (N : Nat) (l : List Int) : List Int := (writeF s r N l).2
theorem drop_take_len {l : List Int} {k : Nat} : List.drop k (List.take (Int.toNat (l.length : Int)) l) = l.drop k := by
  rw [Int.toNat_natCast, List.take_length]
theorem wr_loop (s r l : List Int) (n : Int) : SumOK Tryd.prog DS (bodyN Tryd.f42 0) (loopL DS (wrSn s r l n) (.exit 0) (wrSn (eat s l (l.length / 64)) r (l.drop (64 * (l.length / 64))) n)) := by
  have hI : ∀ k, (wrSn (eat s l k) r (l.drop (64 * k)) n) = wrSn (eat s l k) r (l.drop (64 * k)) n := fun _ => rfl
  have h := sum_loop gamW_ok mixed (c := bodyN Tryd.f42 0) (fun k => wrSn (eat s l k) r (l.drop (64 * k)) n) (l.length / 64) (e := .exit 0) (s := wrSn (eat s l (l.length / 64)) r (l.drop (64 * (l.length / 64))) n) rfl (fun k hk => ?_) ?_
  · simpa only [eat, Nat.mul_zero, List.drop_zero] using h
  · have hlen : 64 ≤ (l.drop (64 * k)).length := by rw [List.length_drop]; omega
    refine ⟨_, _, _, wr_round (eat s l k) r (l.drop (64 * k)) (eat s l (k + 1)) (l.drop (64 * (k + 1))) n (decide_eq_true (by omega)) hlen (by omega) (by omega) ?_ rfl⟩
    rw [drop_take_len, List.drop_drop]
    rw [show 64 * k + 64 = 64 * (k + 1) from by omega]
  · exact ⟨_, _, _, wr_exit _ r _ n (decide_eq_false (by rw [List.length_drop]; omega))⟩
inductive WrT where
  | nil (l : List Int)
  | one (s r : List Int) (n : Int) (l : List Int)
def wrRd : List (BoxSt DS.τ) → List (A0 DS.τ) → Option WrT
  | [], [.one .nilp, .one (.words .u8 l)] => some (.nil l)
  | [.fixed _ ps], [.one (.ref 0 0), .one (.words .u8 l)] => match hashOf ps with
    | some (s, r, n) => some (.one s r n l)
    | none => none
  | _, _ => none
def wrPreT : WrT → List (BoxSt DS.τ) × List (A0 DS.τ)
  | .nil l => ([], [.one .nilp, .one (.words .u8 l)])
  | .one s r n l => wrPre s r l n
def wrPost : WrT → Option (AV DS.τ × List (BoxSt DS.τ) × List Prop)
  | .nil _ => some (.tup [], [], [])
  | .one s r n l => some (.tup [], [.fixed 80 (hashP (writeS s r n.toNat l) (writeR s r n.toNat l) (n + l.length))], [0 ≤ n, n + l.length ≤ 9223372036854775807])
noncomputable def wrD := mkF DS Tryd.f42.ntmps wrRd wrPreT wrPost
theorem write_ok : OpOK Tryd.prog DS 42 wrD := by
  refine opOK_mk gamW_ok mixed Tryd.func42 (enters_of Tryd.func42 (by kernel_rfl) rfl) ?_
  rintro (l | ⟨s, r, n, l⟩) r' bs' ps h hps
  · simp only [wrPost, Option.some.injEq, Prod.mk.injEq] at h
    obtain ⟨rfl, rfl, rfl⟩ := h
    exact ⟨_, _, wr_nil l⟩
  · simp only [wrPost, Option.some.injEq, Prod.mk.injEq] at h
    obtain ⟨rfl, rfl, rfl⟩ := h
    have h0 : 0 ≤ n := hps _ (by simp)
    have h1 : n + l.length ≤ 9223372036854775807 := hps _ (by simp)
    obtain ⟨N, rfl⟩ : ∃ N : Nat, n = N := ⟨n.toNat, by omega⟩
    simp only [Int.toNat_natCast, writeS, writeR]
    have hm : Int.tmod (N : Int) 64 = ((N % 64 : Nat) : Int) := by
      rw [Int.tmod_eq_emod_of_nonneg (by omega)]; omega
    have hin : InI64 ((N : Int) + l.length) := ⟨by omega, by omega⟩
    by_cases hN : N = 0
    · subst hN
      exact ⟨_, _, wr_new s r l _ _ _ _ _ rfl hin rfl (wr_loop firstL r l _) rfl rfl⟩
    have hne : ((N : Int) == 0) = false := by rw [beq_eq_false_iff_ne]; omega
    by_cases ha : N % 64 = 0
    · have e : writeF s r N l = eatAll s r l := by unfold writeF; rw [if_pos ha, if_neg hN]
      rw [e]
      exact ⟨_, _, wr_even s r l _ _ _ _ _ hne hin (decide_eq_false (by omega)) (wr_loop s r l _) rfl rfl⟩
    by_cases hf : N % 64 + l.length < 64
    · have e : writeF s r N l = (s, over r (N % 64) (l.take (64 - N % 64))) := by unfold writeF; rw [if_neg ha, if_pos hf]
      rw [e]
      refine ⟨_, _, wr_few s r l _ _ _ hne hin (decide_eq_true (by omega)) (by omega) (by omega) (by omega) ⟨by omega, by omega⟩ (decide_eq_true (by rw [hm]; omega)) ?_ rfl⟩
      rw [hm, Int.toNat_natCast]
      rfl
    · have e : writeF s r N l = eatAll (takeF s (over r (N % 64) (l.take (64 - N % 64)))) (over r (N % 64) (l.take (64 - N % 64))) (l.drop (64 - N % 64)) := by unfold writeF; rw [if_neg ha, if_neg hf]
      rw [e]
      refine ⟨_, _, wr_more s r l (takeF s (over r (N % 64) (l.take (64 - N % 64)))) (over r (N % 64) (l.take (64 - N % 64))) (l.drop (64 - N % 64)) _ _ _ _ _ hne hin (decide_eq_true (by omega)) (by omega) (by omega) (by omega) ⟨by omega, by omega⟩ (decide_eq_false (by rw [hm]; omega)) (by omega) (by omega) (by omega) (wr_loop _ _ _ _) ?_ ?_ ?_ rfl rfl⟩
      · rw [drop_take_len, hm, Int.toNat_natCast, Int.toNat_natCast, Nat.min_eq_left (by omega)]
      · rw [hm, Int.toNat_natCast]; rfl
      · rw [hm, Int.toNat_natCast]; rfl
end Go.Num
namespace Go.Num
open Go.Abs Go.Proofs Go.Shelf
noncomputable def gamS : Gam DS := [(42, .op [true, false] wrD)]
theorem gamS_ok : GamOK Tryd.prog DS gamS := gam_op write_ok gam_nil
def smSn (s r z t : List Int) (n m : Int) (sl : List (Nat × AV DS.τ)) : Sn DS.τ where
  slots := [(0, .v (.one (.ref 0 0))), (2, .v (.one (.ref 1 0))), (3, .v (.one (.ref 2 0))), (4, .v (.one (.ref 3 0))), (5, .v (.one (.int .i64 false m)))] ++ sl
  boxes := [(0, .fixed 80 (hashP s r n)), (1, .fixed 56 [.arr .u8 32 z]), (2, .fixed 56 [.arr .u8 32 z]), (3, .fixed 92 [.arr .u8 72 t])]
  nt := 66
  np := 1
def sm2Sn (s r z s2 r2 o : List Int) (n n2 : Int) (sl : List (Nat × AV DS.τ)) : Sn DS.τ where
  slots := [(0, .v (.one (.ref 0 0))), (2, .v (.one (.ref 1 0))), (3, .v (.one (.ref 2 0))), (7, .v (.one (.ref 3 0)))] ++ sl
  boxes := [(0, .fixed 80 (hashP s r n)), (1, .fixed 56 [.arr .u8 32 z]), (2, .fixed 56 [.arr .u8 32 o]), (3, .fixed 80 (hashP s2 r2 n2))]
  nt := 66
  np := 1
theorem sm_round (s r z t t' : List Int) (n m : Int) (i : Nat)
 (h1 : ((decide (((i : Nat) : Int) < (8 : Int))) = true))
 (h2 : (InI64 ((1 : Int) + m)))
 (h3 : (InI64 (((1 : Int) + m) + ((i : Nat) : Int))))
 (h4 : (InI64 ((8 : Int) * ((i : Nat) : Int))))
 (h5 : (InI64 ((56 : Int) - ((8 : Int) * ((i : Nat) : Int)))))
 (h6 : ((0 : Int) ≤ ((56 : Int) - ((8 : Int) * ((i : Nat) : Int)))))
 (h7 : ((0 : Int) ≤ (((1 : Int) + m) + ((i : Nat) : Int))))
 (h8 : ((((1 : Int) + m) + ((i : Nat) : Int)) < (((72 : Nat) : Nat) : Int)))
 (h9 : (InI64 (((i : Nat) : Int) + (1 : Int))))
 (h10 : ((List.set t (Int.toNat (((1 : Int) + m) + ((i : Nat) : Int))) (Go.IntKind.wrap Go.IntKind.u8 (Int.fdiv (Go.IntKind.wrap Go.IntKind.u64 ((Go.IntKind.wrap Go.IntKind.u64 n) * (8 : Int))) ((2 : Int) ^ (min (Int.toNat ((56 : Int) - ((8 : Int) * ((i : Nat) : Int)))) (64 : Nat)))))) = t')) :
 ∃ ps, stepPs Tryd.prog DS gamS 100 (bodyN Tryd.f43 0) 100 (smSn s r z t n m [slI 20 i]).st [.is true] .normal (smSn s r z t' n m [slI 20 ((i : Int) + 1)]) = some ps ∧ AllQ ps := ⟨_, by kernel_rfl, qc h1 (qc h2 (qc h3 (qc h4 (qc h5 (qc h6 (qc h7 (qc h8 (qc h9 (qc (Eq.refl m) (qc (Eq.refl ((((i : Nat) : Int) + (1 : Int)))) (qc (Eq.refl s) (qc (Eq.refl r) (qc (Eq.refl n) (qc (Eq.refl z) (qc (Eq.refl z) (qc h10 (qn)))))))))))))))))⟩
theorem sm_exit (s r z t : List Int) (n m : Int) (i : Nat)
 (h1 : ((decide (((i : Nat) : Int) < (8 : Int))) = false)) :
 ∃ ps, stepPs Tryd.prog DS gamS 100 (bodyN Tryd.f43 0) 100 (smSn s r z t n m [slI 20 i]).st [.is false] (.exit 0) (smSn s r z t n m []) = some ps ∧ AllQ ps := ⟨_, by kernel_rfl, qc h1 (qc (Eq.refl m) (qc (Eq.refl s) (qc (Eq.refl r) (qc (Eq.refl n) (qc (Eq.refl z) (qc (Eq.refl z) (qc (Eq.refl t) (qn))))))))⟩
theorem sm2_round (s r z s2 r2 o o' : List Int) (n n2 : Int) (i : Nat)
 (h1 : ((decide (((i : Nat) : Int) < (32 : Int))) = true))
 (h2 : ((0 : Int) ≤ (Go.IntKind.wrap Go.IntKind.i64 (Int.tdiv ((i : Nat) : Int) (4 : Int)))))
 (h3 : ((Go.IntKind.wrap Go.IntKind.i64 (Int.tdiv ((i : Nat) : Int) (4 : Int))) < (((8 : Nat) : Nat) : Int)))
 (h4 : (InI64 ((8 : Int) * (Int.tmod ((i : Nat) : Int) (4 : Int)))))
 (h5 : (InI64 ((24 : Int) - ((8 : Int) * (Int.tmod ((i : Nat) : Int) (4 : Int))))))
 (h6 : ((0 : Int) ≤ ((24 : Int) - ((8 : Int) * (Int.tmod ((i : Nat) : Int) (4 : Int))))))
 (h7 : ((0 : Int) ≤ ((i : Nat) : Int)))
 (h8 : (((i : Nat) : Int) < (((32 : Nat) : Nat) : Int)))
 (h9 : (InI64 (((i : Nat) : Int) + (1 : Int))))
 (h10 : ((List.set o (Int.toNat ((i : Nat) : Int)) (Go.IntKind.wrap Go.IntKind.u8 (Int.fdiv (List.getD s2 (Int.toNat (Go.IntKind.wrap Go.IntKind.i64 (Int.tdiv ((i : Nat) : Int) (4 : Int)))) (0 : Int)) ((2 : Int) ^ (min (Int.toNat ((24 : Int) - ((8 : Int) * (Int.tmod ((i : Nat) : Int) (4 : Int))))) (32 : Nat)))))) = o')) :
 ∃ ps, stepPs Tryd.prog DS gamS 100 (bodyN Tryd.f43 1) 100 (sm2Sn s r z s2 r2 o n n2 [slI 48 i]).st [.is true] .normal (sm2Sn s r z s2 r2 o' n n2 [slI 48 ((i : Int) + 1)]) = some ps ∧ AllQ ps := ⟨_, by kernel_rfl, qc h1 (qc (show ((4 : Int) ≠ (0 : Int)) from by decide) (qc h2 (qc h3 (qc h4 (qc h5 (qc h6 (qc h7 (qc h8 (qc h9 (qc (Eq.refl ((((i : Nat) : Int) + (1 : Int)))) (qc (Eq.refl s) (qc (Eq.refl r) (qc (Eq.refl n) (qc (Eq.refl z) (qc h10 (qc (Eq.refl s2) (qc (Eq.refl r2) (qc (Eq.refl n2) (qn)))))))))))))))))))⟩
theorem sm2_exit (s r z s2 r2 o : List Int) (n n2 : Int) (i : Nat)
 (h1 : ((decide (((i : Nat) : Int) < (32 : Int))) = false)) :
 ∃ ps, stepPs Tryd.prog DS gamS 100 (bodyN Tryd.f43 1) 100 (sm2Sn s r z s2 r2 o n n2 [slI 48 i]).st [.is false] (.exit 2) (sm2Sn s r z s2 r2 o n n2 []) = some ps ∧ AllQ ps := ⟨_, by kernel_rfl, qc h1 (qc (Eq.refl s) (qc (Eq.refl r) (qc (Eq.refl n) (qc (Eq.refl z) (qc (Eq.refl o) (qc (Eq.refl s2) (qc (Eq.refl r2) (qc (Eq.refl n2) (qn)))))))))⟩
theorem sm_run (s r z t t' s2 r2 o : List Int) (n n2 m : Int)
 (h1 : (InI64 ((119 : Int) - (Int.tmod n (64 : Int)))))
 (h2 : SumOK Tryd.prog DS (bodyN Tryd.f43 0) (loopL DS (smSn s r z t n m [slI 20 (0 : Nat)]) (.exit 0) (smSn s r z t' n m [])))
 (h3 : ((Int.tmod ((119 : Int) - (Int.tmod n (64 : Int))) (64 : Int)) = m))
 (h4 : (([(0 : Int), (0 : Int), (0 : Int), (0 : Int), (0 : Int), (0 : Int), (0 : Int), (0 : Int), (0 : Int), (0 : Int), (0 : Int), (0 : Int), (0 : Int), (0 : Int), (0 : Int), (0 : Int), (0 : Int), (0 : Int), (0 : Int), (0 : Int), (0 : Int), (0 : Int), (0 : Int), (0 : Int), (0 : Int), (0 : Int), (0 : Int), (0 : Int), (0 : Int), (0 : Int), (0 : Int), (0 : Int)] : List Int) = z))
 (h5 : (([(128 : Int), (0 : Int), (0 : Int), (0 : Int), (0 : Int), (0 : Int), (0 : Int), (0 : Int), (0 : Int), (0 : Int), (0 : Int), (0 : Int), (0 : Int), (0 : Int), (0 : Int), (0 : Int), (0 : Int), (0 : Int), (0 : Int), (0 : Int), (0 : Int), (0 : Int), (0 : Int), (0 : Int), (0 : Int), (0 : Int), (0 : Int), (0 : Int), (0 : Int), (0 : Int), (0 : Int), (0 : Int), (0 : Int), (0 : Int), (0 : Int), (0 : Int), (0 : Int), (0 : Int), (0 : Int), (0 : Int), (0 : Int), (0 : Int), (0 : Int), (0 : Int), (0 : Int), (0 : Int), (0 : Int), (0 : Int), (0 : Int), (0 : Int), (0 : Int), (0 : Int), (0 : Int), (0 : Int), (0 : Int), (0 : Int), (0 : Int), (0 : Int), (0 : Int), (0 : Int), (0 : Int), (0 : Int), (0 : Int), (0 : Int), (0 : Int), (0 : Int), (0 : Int), (0 : Int), (0 : Int), (0 : Int), (0 : Int), (0 : Int)] : List Int) = t))
 (h6 : (InI64 ((1 : Int) + m)))
 (h7 : (InI64 (((1 : Int) + m) + (8 : Int))))
 (h8 : ((0 : Int) ≤ (((1 : Int) + m) + (8 : Int))))
 (h9 : ((((1 : Int) + m) + (8 : Int)) ≤ (((72 : Nat) : Nat) : Int)))
 (h10 : ((0 : Int) ≤ n))
 (h11 : ((n + (((List.length (List.take ((Int.toNat (((1 : Int) + m) + (8 : Int))) - (0 : Nat)) (List.drop (0 : Nat) t'))) : Nat) : Int)) ≤ (9223372036854775807 : Int)))
 (h12 : SumOK Tryd.prog DS (bodyN Tryd.f43 1) (loopL DS (sm2Sn s r z s2 r2 z n n2 [slI 48 (0 : Nat)]) (.exit 2) (sm2Sn s r z s2 r2 o n n2 [])))
 (h13 : ((writeS s r (Int.toNat n) (List.take ((Int.toNat (((1 : Int) + m) + (8 : Int))) - (0 : Nat)) (List.drop (0 : Nat) t'))) = s2))
 (h14 : ((writeR s r (Int.toNat n) (List.take ((Int.toNat (((1 : Int) + m) + (8 : Int))) - (0 : Nat)) (List.drop (0 : Nat) t'))) = r2))
 (h15 : ((n + (((List.length (List.take ((Int.toNat (((1 : Int) + m) + (8 : Int))) - (0 : Nat)) (List.drop (0 : Nat) t'))) : Nat) : Int)) = n2)) :
 ∃ ps, runO Tryd.prog DS gamS 100 Tryd.f43 ([.fixed 80 (hashP s r n)], [.one (.ref 0 0)]) [.loop (loopL DS (smSn s r z t n m [slI 20 (0 : Nat)]) (.exit 0) (smSn s r z t' n m [])), .loop (loopL DS (sm2Sn s r z s2 r2 z n n2 [slI 48 (0 : Nat)]) (.exit 2) (sm2Sn s r z s2 r2 o n n2 []))] (.v (.agg [.arr .u8 32 o])) [.fixed 80 (hashP s r n)] = some ps ∧ AllQ ps := ⟨_, by kernel_rfl, qc h1 (qc h2 (qc h3 (qc (show ((0 : Int) = (((0 : Nat) : Nat) : Int)) from by decide) (qc (Eq.refl s) (qc (Eq.refl r) (qc (Eq.refl n) (qc h4 (qc h4 (qc h5 (qc h6 (qc h7 (qc (show ((0 : Int) ≤ (0 : Int)) from by decide) (qc h8 (qc h9 (qc (show ((0 : Int) < (((72 : Nat) : Nat) : Int)) from by decide) (qc (Eq.refl ((List.take ((Int.toNat (((1 : Int) + m) + (8 : Int))) - (0 : Nat)) (List.drop (0 : Nat) t')))) (qc (Eq.refl s) (qc (Eq.refl r) (qc (Eq.refl n) (qc h10 (qc h11 (qc h12 (qc (show ((0 : Int) = (((0 : Nat) : Nat) : Int)) from by decide) (qc (Eq.refl s) (qc (Eq.refl r) (qc (Eq.refl n) (qc (Eq.refl z) (qc (Eq.refl z) (qc h13 (qc h14 (qc h15 (qc (Eq.refl o) (qc (Eq.refl s) (qc (Eq.refl r) (qc (Eq.refl n) (qn))))))))))))))))))))))))))))))))))))⟩
theorem sm_nil (o : List Int)
 (h1 : (([(0 : Int), (0 : Int), (0 : Int), (0 : Int), (0 : Int), (0 : Int), (0 : Int), (0 : Int), (0 : Int), (0 : Int), (0 : Int), (0 : Int), (0 : Int), (0 : Int), (0 : Int), (0 : Int), (0 : Int), (0 : Int), (0 : Int), (0 : Int), (0 : Int), (0 : Int), (0 : Int), (0 : Int), (0 : Int), (0 : Int), (0 : Int), (0 : Int), (0 : Int), (0 : Int), (0 : Int), (0 : Int)] : List Int) = o)) :
 ∃ ps, runO Tryd.prog DS gamS 100 Tryd.f43 ([], [.one .nilp]) [] (.v (.agg [.arr .u8 32 o])) [] = some ps ∧ AllQ ps := ⟨_, by kernel_rfl, qc h1 (qn)⟩
def padN (N : Nat) : Nat := (119 - N % 64) % 64
def tail0 : List Int := 128 :: List.replicate 71 0
def tailS (N : Nat) : Nat → List Int
  | 0 => tail0
  | i + 1 => (tailS N i).set ((1 + (padN N : Int)) + (i : Int)).toNat (IntKind.u8.wrap (Int.fdiv (IntKind.u64.wrap (IntKind.u64.wrap (N : Int) * 8)) (2 ^ min (56 - 8 * (i : Int)).toNat 64)))
def tailF (N : Nat) : List Int := (tailS N 8).take (padN N + 9)
def outS (s : List Int) : Nat → List Int
  | 0 => List.replicate 32 0
  | i + 1 => (outS s i).set (i : Int).toNat (IntKind.u8.wrap (Int.fdiv (s.getD (IntKind.i64.wrap (Int.tdiv (i : Int) 4)).toNat 0) (2 ^ min (24 - 8 * Int.tmod (i : Int) 4).toNat 32)))
def sumF (s r : List Int) (N : Nat) : List Int := outS (writeS s r N (tailF N)) 32
theorem tailS_len (N : Nat) : ∀ i, (tailS N i).length = 72
  | 0 => rfl
  | i + 1 => by simp [tailS, tailS_len N i]
theorem tailF_len (N : Nat) : (tailF N).length = padN N + 9 := by
  unfold tailF
  rw [List.length_take, tailS_len]
  unfold padN
  omega
theorem sm_loop1 (s r z : List Int) (N : Nat) : SumOK Tryd.prog DS (bodyN Tryd.f43 0) (loopL DS (smSn s r z tail0 N (padN N) [slI 20 (0 : Nat)]) (.exit 0) (smSn s r z (tailS N 8) N (padN N) [])) := by
  have hp : padN N < 64 := by unfold padN; omega
  refine sum_loop gamS_ok mixed (fun i => smSn s r z (tailS N i) N (padN N) [slI 20 i]) 8 rfl (fun i hi => ?_) ?_
  · exact ⟨_, _, _, sm_round s r z (tailS N i) (tailS N (i + 1)) N (padN N) i (decide_eq_true (by omega)) (inI64_small (by omega) (by omega)) (inI64_small (by omega) (by omega)) (inI64_small (by omega) (by omega)) (inI64_small (by omega) (by omega)) (by omega) (by omega) (by omega) (inI64_small (by omega) (by omega)) rfl⟩
  · exact ⟨_, _, _, sm_exit s r z (tailS N 8) N (padN N) 8 (decide_eq_false (by omega))⟩
theorem tdiv_small (i : Nat) : IntKind.i64.wrap (Int.tdiv (i : Int) 4) = ((i / 4 : Nat) : Int) ∨ 9223372036854775807 < i := by
  by_cases h : i ≤ 9223372036854775807
  · left
    rw [Int.tdiv_eq_ediv_of_nonneg (by omega)]
    have : ((i : Int) / 4) = ((i / 4 : Nat) : Int) := by omega
    rw [this, IntKind.wrap_i64]
    omega
  · right; omega
theorem tmod_nat (i k : Nat) : Int.tmod (i : Int) (k : Int) = ((i % k : Nat) : Int) := by
  rw [Int.tmod_eq_emod_of_nonneg (by omega)]; omega
theorem sm_loop2 (s r z s2 r2 : List Int) (n n2 : Int) : SumOK Tryd.prog DS (bodyN Tryd.f43 1) (loopL DS (sm2Sn s r z s2 r2 (outS s2 0) n n2 [slI 48 (0 : Nat)]) (.exit 2) (sm2Sn s r z s2 r2 (outS s2 32) n n2 [])) := by
  refine sum_loop gamS_ok mixed (fun i => sm2Sn s r z s2 r2 (outS s2 i) n n2 [slI 48 i]) 32 rfl (fun i hi => ?_) ?_
  · have hm : Int.tmod (i : Int) 4 = ((i % 4 : Nat) : Int) := tmod_nat i 4
    have hd : IntKind.i64.wrap (Int.tdiv (i : Int) 4) = ((i / 4 : Nat) : Int) := by
      rcases tdiv_small i with h | h
      · exact h
      · omega
    refine ⟨_, _, _, sm2_round s r z s2 r2 (outS s2 i) (outS s2 (i + 1)) n n2 i (decide_eq_true (by omega)) (by rw [hd]; omega) (by rw [hd]; omega) (by rw [hm]; exact inI64_small (by omega) (by omega)) (by rw [hm]; exact inI64_small (by omega) (by omega)) (by rw [hm]; omega) (by omega) (by omega) (inI64_small (by omega) (by omega)) rfl⟩
  · exact ⟨_, _, _, sm2_exit s r z s2 r2 (outS s2 32) n n2 32 (decide_eq_false (by omega))⟩
inductive HsT where
  | nil
  | one (s r : List Int) (n : Int)
def hsRd : List (BoxSt DS.τ) → List (A0 DS.τ) → Option HsT
  | [], [.one .nilp] => some .nil
  | [.fixed _ ps], [.one (.ref 0 0)] => match hashOf ps with
    | some (s, r, n) => some (.one s r n)
    | none => none
  | _, _ => none
def hsPre : HsT → List (BoxSt DS.τ) × List (A0 DS.τ)
  | .nil => ([], [.one .nilp])
  | .one s r n => ([.fixed 80 (hashP s r n)], [.one (.ref 0 0)])
def smPost : HsT → Option (AV DS.τ × List (BoxSt DS.τ) × List Prop)
  | .nil => some (.v (.agg [.arr .u8 32 (List.replicate 32 0)]), [], [])
  | .one s r n => some (.v (.agg [.arr .u8 32 (sumF s r n.toNat)]), [.fixed 80 (hashP s r n)], [0 ≤ n, n ≤ 4611686018427387904])
noncomputable def smD := mkF DS Tryd.f43.ntmps hsRd hsPre smPost
theorem sum_ok : OpOK Tryd.prog DS 43 smD := by
  refine opOK_mk gamS_ok mixed Tryd.func43 (enters_of Tryd.func43 (by kernel_rfl) rfl) ?_
  rintro (_ | ⟨s, r, n⟩) r' bs' ps h hps
  · simp only [smPost, Option.some.injEq, Prod.mk.injEq] at h
    obtain ⟨rfl, rfl, rfl⟩ := h
    exact ⟨_, _, sm_nil _ rfl⟩
  · simp only [smPost, Option.some.injEq, Prod.mk.injEq] at h
    obtain ⟨rfl, rfl, rfl⟩ := h
    have h0 : 0 ≤ n := hps _ (by simp)
    have h1 : n ≤ 4611686018427387904 := hps _ (by simp)
    obtain ⟨N, rfl⟩ : ∃ N : Nat, n = N := ⟨n.toNat, by omega⟩
    simp only [Int.toNat_natCast]
    have hm : Int.tmod (N : Int) 64 = ((N % 64 : Nat) : Int) := tmod_nat N 64
    have hp : padN N < 64 := by unfold padN; omega
    have hq : Int.tmod (119 - Int.tmod (N : Int) 64) 64 = (padN N : Int) := by
      rw [hm, show (119 - ((N % 64 : Nat) : Int)) = ((119 - N % 64 : Nat) : Int) from by omega]
      exact tmod_nat _ 64
    have ht : List.take ((Int.toNat ((1 + (padN N : Int)) + 8)) - Int.toNat 0) (List.drop (Int.toNat 0) (tailS N 8)) = tailF N := by
      unfold tailF
      rw [show (Int.toNat ((1 + (padN N : Int)) + 8)) - Int.toNat 0 = padN N + 9 from by omega]
      rfl
    refine ⟨_, _, sm_run s r (List.replicate 32 0) tail0 (tailS N 8) (writeS s r N (tailF N)) (writeR s r N (tailF N)) (sumF s r N) N ((N : Int) + (tailF N).length) (padN N) ?_ (sm_loop1 _ _ _ N) hq rfl rfl ?_ ?_ (by omega) (by omega) (by omega) ?_ (sm_loop2 _ _ _ _ _ _ _) ?_ ?_ ?_⟩
    · rw [hm]; exact inI64_small (by omega) (by omega)
    · exact inI64_small (by omega) (by omega)
    · exact inI64_small (by omega) (by omega)
    · erw [ht]; rw [tailF_len]; omega
    · erw [ht]; rfl
    · erw [ht]; rfl
    · erw [ht]
def zero8 : List Int := List.replicate 8 0
def zero64 : List Int := List.replicate 64 0
end Go.Num

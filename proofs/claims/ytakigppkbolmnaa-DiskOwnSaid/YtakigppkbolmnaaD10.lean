/- Disk: what Read, List, Image, Crash, Fuse, New and Mount do: the contracts. -/
import Derived.Test.YtakigppkbolmnaaD9
namespace Go.Num
open Go.Abs Go.Proofs Go.Shelf Go.RowKit

/-- A disk's boxes as they are told. -/
def dkRdE : List (BoxSt DF.τ) → Option DkT
  | [.fixed t ps, .fam k es none] => match ps with
    | [.int .i64 false ro, .mapr 1, .int .i64 false st, .int .i64 false fu, .bool false dn] => bif Nat.beq t 66 && Nat.beq k 0 then some (ro, st, fu, dn, es) else none
    | _ => none
  | _ => none
theorem dkRdE_is {bs : List (BoxSt DF.τ)} {d : DkT} (h : dkRdE bs = some d) : dkBt d = bs := by
  unfold dkRdE at h
  split at h
  · rename_i t ps k es
    split at h
    · rename_i ro st fu dn
      cases hb : (Nat.beq t 66 && Nat.beq k 0) <;> simp only [hb, cond_true, cond_false] at h
      · cases h
      · obtain ⟨rfl, rfl⟩ := beq_and hb
        cases h
        rfl
    · cases h
  · cases h

/-! Facts of sorted names -/

theorem sortK_len (es : List (Rec × Ob)) : (sortK es).length = es.length := by
  unfold sortK keyL
  rw [List.length_map, List.length_mergeSort, List.length_map]

theorem ba_back (s : ByteArray) : (⟨s.data.toList.toArray⟩ : ByteArray) = s := by
  cases s
  rfl

theorem sortK_mem {es : List (Rec × Ob)} (hk : ∀ e ∈ es, ∃ s, e.1 = [Fd.s s]) {r : Rec} : r ∈ sortK es ↔ r ∈ es.map (·.1) := by
  unfold sortK keyL
  rw [List.mem_map]
  constructor
  · rintro ⟨l, hl, rfl⟩
    have hl' := (List.mergeSort_perm _ leB).mem_iff.1 hl
    obtain ⟨e, he, rfl⟩ := List.mem_map.1 hl'
    obtain ⟨s, hs⟩ := hk e he
    refine List.mem_map.2 ⟨e, he, ?_⟩
    rw [hs]
    show [Fd.s s] = [Fd.s ⟨s.data.toList.toArray⟩]
    rw [ba_back]
  · intro h
    obtain ⟨e, he, rfl⟩ := List.mem_map.1 h
    obtain ⟨s, hs⟩ := hk e he
    refine ⟨s.data.toList, (List.mergeSort_perm _ leB).mem_iff.2 (List.mem_map.2 ⟨e, he, by rw [hs]; rfl⟩), ?_⟩
    rw [hs, ba_back]

theorem hasE_iff {es : List (Rec × Ob)} {k : Rec} : hasE es k = true ↔ k ∈ es.map (·.1) := by
  constructor
  · intro h
    exact List.mem_map.2 ⟨_, hasE_mem h, rfl⟩
  · intro h
    induction es with
    | nil => cases h
    | cons e es ih =>
      obtain ⟨x, o⟩ := e
      by_cases hx : x = k
      · simp [hasE, getE, hx]
      · have : k ∈ es.map (·.1) := by
          rcases List.mem_cons.1 h with h | h
          · exact (hx h.symm).elim
          · exact h
        simpa [hasE, getE, hx] using ih this

theorem setE_keys {es : List (Rec × Ob)} {k : Rec} {o : Ob} (h : hasE es k = true) : (setE es k o).map (·.1) = es.map (·.1) := by
  induction es with
  | nil => cases h
  | cons e es ih =>
    obtain ⟨x, p⟩ := e
    by_cases hx : x = k
    · simp [setE, hx]
    · have h1 : hasE es k = true := by simpa [hasE, getE, hx] using h
      simp [setE, hx, ih h1]

theorem setE_keysN {es : List (Rec × Ob)} {k : Rec} {o : Ob} (h : hasE es k = false) : setE es k o = es ++ [(k, o)] := by
  induction es with
  | nil => rfl
  | cons e es ih =>
    obtain ⟨x, p⟩ := e
    by_cases hx : x = k
    · simp [hasE, getE, hx] at h
    · have h1 : hasE es k = false := by simpa [hasE, getE, hx] using h
      simp [setE, hx, ih h1]

theorem setE_mem {es : List (Rec × Ob)} {k : Rec} {o : Ob} {e : Rec × Ob} (h : e ∈ setE es k o) : e = (k, o) ∨ e ∈ es := by
  induction es with
  | nil => simpa [setE] using h
  | cons f es ih =>
    obtain ⟨x, p⟩ := f
    by_cases hx : x = k
    · rw [setE, if_pos hx] at h
      rcases List.mem_cons.1 h with h | h
      · exact Or.inl (by rw [h, hx])
      · exact Or.inr (List.mem_cons_of_mem _ h)
    · rw [setE, if_neg hx] at h
      rcases List.mem_cons.1 h with h | h
      · exact Or.inr (by rw [h]; exact List.mem_cons_self ..)
      · rcases ih h with h | h
        · exact Or.inl h
        · exact Or.inr (List.mem_cons_of_mem _ h)

theorem Okd.keys1 {d : DkT} (h : Okd d) : ∀ e ∈ d.2.2.2.2, ∃ s, e.1 = [Fd.s s] := fun e he => by
  obtain ⟨s, hs, _⟩ := h.keys e he
  exact ⟨s, hs⟩

theorem Okd.short {d : DkT} (h : Okd d) : Short d.2.2.2.2 := by
  refine ⟨by have := h.len; omega, fun e he => ?_⟩
  obtain ⟨s, hs, hr⟩ := h.keys e he
  rw [hs]
  show s.size ≤ _
  have := rightB_size hr
  omega

theorem sortK_at {es : List (Rec × Ob)} (hk : ∀ e ∈ es, ∃ s, e.1 = [Fd.s s]) {k : Nat} (hlt : k < es.length) : ∃ s, (sortK es).getD k [] = [Fd.s s] ∧ hasE es [Fd.s s] = true := by
  have hl : k < (sortK es).length := by rw [sortK_len]; exact hlt
  have hm : (sortK es).getD k [] ∈ sortK es := by
    rw [List.getD_eq_getElem?_getD, List.getElem?_eq_getElem hl]
    exact List.getElem_mem hl
  have h2 := (sortK_mem hk).1 hm
  obtain ⟨e, he, hee⟩ := List.mem_map.1 h2
  obtain ⟨s, hs⟩ := hk e he
  refine ⟨s, by rw [← hee, hs], ?_⟩
  rw [hasE_iff, ← hs, hee]
  exact h2

/-! Read -/

def readM (d : DkT) (s : ByteArray) : Int × List Int := if d.err s ≠ 0 then (d.err s, []) else (0, fD d s)
def reRd (bs : List (BoxSt DF.τ)) : List (A0 DF.τ) → Option (DkT × ByteArray)
  | [.one (.ref 0 0), .one (.str s)] => match dkRdE bs with
    | some d => some (d, s)
    | none => none
  | _ => none
theorem reRd_is {bs : List (BoxSt DF.τ)} {xs : List (A0 DF.τ)} {t : DkT × ByteArray} (h : reRd bs xs = some t) : (fiPre t).1 = bs := by
  unfold reRd at h
  split at h
  · split at h
    · rename_i d hd
      cases h
      exact dkRdE_is hd
    · cases h
  · cases h
noncomputable def readR := mkF DF Try.f15.ntmps reRd fiPre (fun t => some (rdV (readM t.1 t.2).1, [dynB (readM t.1 t.2).2], [Okd t.1, t.2.size ≤ 9223372036854775807]))
theorem read_ok : OpOK Try.prog DF 15 (withNew readR) := by
  refine opOK_mkR mixed Try.func15 (enters_of Try.func15 (by kernel_rfl) rfl) (fun _ _ _ => reRd_is) ?_
  rintro ⟨⟨ro, st, fu, dn, es⟩, s⟩ r' ns ps h hps
  simp only [Option.some.injEq, Prod.mk.injEq] at h
  obtain ⟨rfl, rfl, rfl⟩ := h
  have hd : Okd (ro, st, fu, dn, es) := hps (Okd _) (by simp)
  have hs : s.size ≤ 9223372036854775807 := hps (s.size ≤ 9223372036854775807) (by simp)
  by_cases c0 : errF dn es s = 0
  · obtain ⟨e1, e2, e3⟩ := errF_ok c0
    have hm : readM (ro, st, fu, dn, es) s = (0, fD (ro, st, fu, dn, es) s) := by
      unfold readM
      exact if_neg (by simp [c0])
    rw [hm]
    exact ⟨_, _, _, gam_op findOk_ok (gam_cons clone_ok gam_nil), re_ok s ro st fu _ dn es _ _ c0 hs (hd.ob [Fd.s s]).2.2 rfl rfl rfl (hd.back e3) rfl⟩
  · have hm : readM (ro, st, fu, dn, es) s = (errF dn es s, []) := by
      unfold readM
      exact if_pos c0
    rw [hm]
    exact ⟨_, _, _, gam_op findBad_ok gam_nil, re_bad s ro st fu _ dn es _ c0 hs (bne_iff_ne.2 c0) rfl rfl⟩

/-! Fuse, New, Steps, Down -/

def fuRd (bs : List (BoxSt DF.τ)) : List (A0 DF.τ) → Option (DkT × Int)
  | [.one (.ref 0 0), .one (.int .i64 _ n)] => match dkRd bs with
    | some d => some (d, n)
    | none => none
  | _ => none
def mxF (a : Int) : Int := if 0 > a then 0 else a
def fuseM (d : DkT) (n : Int) : DkT := (d.1, d.2.1, mxF n, d.2.2.2.1, d.2.2.2.2)
noncomputable def fuseQ := mkF DF Try.f13.ntmps fuRd (fun t => (dkBt t.1, [.one (.ref 0 0), .one (.int .i64 false t.2)])) (fun t => some (.tup [], dkBt (fuseM t.1 t.2), []))
theorem fuse_ok : OpOK Try.prog DF 13 fuseQ := by
  refine opOK_mk gam_nil mixed Try.func13 (enters_of Try.func13 (by kernel_rfl) rfl) ?_
  rintro ⟨⟨ro, st, fu, dn, es⟩, n⟩ r' bs' ps h hps
  simp only [Option.some.injEq, Prod.mk.injEq] at h
  obtain ⟨rfl, rfl, rfl⟩ := h
  exact ⟨_, _, fu_run n ro st fu _ dn es rfl⟩

def spRdE (bs : List (BoxSt DF.τ)) : List (A0 DF.τ) → Option DkT
  | [.one (.ref 0 0)] => dkRdE bs
  | _ => none
theorem spRdE_is {bs : List (BoxSt DF.τ)} {xs : List (A0 DF.τ)} {d : DkT} (h : spRdE bs xs = some d) : dkBt d = bs := by
  unfold spRdE at h
  split at h
  · exact dkRdE_is h
  · cases h
noncomputable def stepsR := mkF DF Try.f23.ntmps spRdE (fun d => (dkBt d, [.one (.ref 0 0)])) (fun d => some (eV d.2.1, [], []))
theorem steps_ok : OpOK Try.prog DF 23 (withNew stepsR) := by
  refine opOK_mkR mixed Try.func23 (enters_of Try.func23 (by kernel_rfl) rfl) (fun _ _ _ => spRdE_is) ?_
  rintro ⟨ro, st, fu, dn, es⟩ r' ns ps h hps
  simp only [Option.some.injEq, Prod.mk.injEq] at h
  obtain ⟨rfl, rfl, rfl⟩ := h
  exact ⟨_, _, _, gam_nil, ss_run ro st fu dn es⟩
noncomputable def downR := mkF DF Try.f24.ntmps spRdE (fun d => (dkBt d, [.one (.ref 0 0)])) (fun d => some (.v (.one (.bool false d.2.2.2.1)), [], []))
theorem down_ok : OpOK Try.prog DF 24 (withNew downR) := by
  refine opOK_mkR mixed Try.func24 (enters_of Try.func24 (by kernel_rfl) rfl) (fun _ _ _ => spRdE_is) ?_
  rintro ⟨ro, st, fu, dn, es⟩ r' ns ps h hps
  simp only [Option.some.injEq, Prod.mk.injEq] at h
  obtain ⟨rfl, rfl, rfl⟩ := h
  exact ⟨_, _, _, gam_nil, dw_run ro st fu dn es⟩

/-! List, Image -/

theorem gN_ok : GamOK Try.prog DF gN := gam_op names_ok (gam_fz clone_ok (gam_rd freeR_ok (gam_op keep_ok gam_nil)))

def listM (d : DkT) : List Rec := if d.2.2.2.1 = true then [] else sortK d.2.2.2.2
noncomputable def listR := mkF DF Try.f25.ntmps spRdE (fun d => (dkBt d, [.one (.ref 0 0)])) (fun d => some (.v (.one (.own 2)), [nmB (listM d)], [Okd d]))
theorem list_ok : OpOK Try.prog DF 25 (withNew listR) := by
  refine opOK_mkR mixed Try.func25 (enters_of Try.func25 (by kernel_rfl) rfl) (fun _ _ _ => spRdE_is) ?_
  rintro ⟨ro, st, fu, dn, es⟩ r' ns ps h hps
  simp only [Option.some.injEq, Prod.mk.injEq] at h
  obtain ⟨rfl, rfl, rfl⟩ := h
  have hd : Okd (ro, st, fu, dn, es) := hps (Okd _) (by simp)
  cases dn
  · exact ⟨_, _, _, gN_ok, li_run ro st fu false es _ rfl hd.short rfl⟩
  · exact ⟨_, _, _, gN_ok, li_down ro st fu true es _ rfl rfl⟩

def fileR (es : List (Rec × Ob)) (r : Rec) : Rec := [.s (recS r 0), .w (obD (obE es [.s (recS r 0)])), .i (obS (obE es [.s (recS r 0)]))]
def imageM (es : List (Rec × Ob)) : List Rec := (sortK es).map (fileR es)

theorem im_loop {ro st fu : Int} {dn : Bool} {es : List (Rec × Ob)} (hd : Okd (ro, st, fu, dn, es)) :
    SumOK Try.prog DF (bodyN Try.f18 0) (loopL DF (imSn ro st fu dn es (sortK es) [] (0 : Nat)) (.exit 0) (imEnd ro st fu dn es (imageM es))) := by
  have hlen := sortK_len es
  have h32 := hd.len
  simp only at h32
  have := sum_loop gN_ok mixed (c := bodyN Try.f18 0) (fun k => imSn ro st fu dn es (sortK es) ((imageM es).take k) k) (sortK es).length (e := .exit 0) (s := imEnd ro st fu dn es (imageM es)) rfl (fun k hk => ?_) ?_
  · exact this
  · obtain ⟨s, hs1, hs2⟩ := sortK_at hd.keys1 (k := k) (by simp only; omega)
    have hs2' : hasE es [Fd.s s] = true := hs2
    have hs1' : (sortK es).getD (Int.toNat (k : Int)) [] = [Fd.s s] := hs1
    have hb := hd.back hs2
    have ho := hd.ob [Fd.s s]
    simp only at hb ho
    have hr : recS ((sortK es).getD (Int.toNat (k : Int)) []) 0 = s := by rw [hs1']; rfl
    have htk : (imageM es).take (k + 1) = (imageM es).take k ++ [fileR es [Fd.s s]] := by
      have hg : (imageM es)[k]? = some (fileR es [Fd.s s]) := by
        unfold imageM
        rw [List.getElem?_map, List.getElem?_eq_getElem hk]
        have : (sortK es)[k] = [Fd.s s] := by
          rw [← hs1, List.getD_eq_getElem?_getD, List.getElem?_eq_getElem hk]
          rfl
        rw [this]
        rfl
      rw [List.take_add_one, hg]
      rfl
    refine ⟨_, _, _, im_step ro st fu dn es (sortK es) _ _ k _ (decide_eq_true (by omega)) (by omega) (by omega) (by simpa using hk) keyT_str rfl (by rw [hr]; exact hs2') (by rw [hr]; exact ho.2.2) ?_ ?_ ⟨by omega, by omega⟩ rfl rfl rfl (by rw [hr]; exact hb) (by rw [hr, htk]; rfl)⟩
    · have : ((imageM es).take k).length ≤ 32 := by rw [List.length_take]; unfold imageM; rw [List.length_map]; omega
      omega
    · have : ((imageM es).take k).length ≤ 32 := by rw [List.length_take]; unfold imageM; rw [List.length_map]; omega
      omega
  · have : (imageM es).take (sortK es).length = imageM es := List.take_of_length_le (by unfold imageM; rw [List.length_map]; exact Nat.le_refl _)
    rw [this]
    exact ⟨_, _, _, im_exit ro st fu dn es (sortK es) (imageM es) _ (decide_eq_false (by omega))⟩

noncomputable def imageR := mkF DF Try.f18.ntmps spRdE (fun d => (dkBt d, [.one (.ref 0 0)])) (fun d => some (.v (.one (.own 2)), [imB (imageM d.2.2.2.2)], [Okd d]))
theorem image_ok : OpOK Try.prog DF 18 (withNew imageR) := by
  refine opOK_mkR mixed Try.func18 (enters_of Try.func18 (by kernel_rfl) rfl) (fun _ _ _ => spRdE_is) ?_
  rintro ⟨ro, st, fu, dn, es⟩ r' ns ps h hps
  simp only [Option.some.injEq, Prod.mk.injEq] at h
  obtain ⟨rfl, rfl, rfl⟩ := h
  have hd : Okd (ro, st, fu, dn, es) := hps (Okd _) (by simp)
  exact ⟨_, _, _, gN_ok, im_run ro st fu dn es (sortK es) _ hd.short (im_loop hd) rfl rfl⟩

end Go.Num

/- Several texts put together: D8 D9 D10 D11 D12 D13 D14. -/
import Derived.Test.YtakigppkbolmnaaMrg8
namespace Go.Num
open Go.Abs Go.Proofs Go.Shelf Go.RowKit
def ObOK (o : Ob) : Prop := ∃ l n, o = fileOb l n ∧ 0 ≤ n ∧ n ≤ (l.length : Int) ∧ l.length ≤ 140737488355328
structure Okd (d : DkT) : Prop where
  keys : ∀ e ∈ d.2.2.2.2, ∃ s, e.1 = [Fd.s s] ∧ rightB s = true
  nodup : (d.2.2.2.2.map (·.1)).Nodup
  obs : ∀ e ∈ d.2.2.2.2, ObOK e.2
  len : d.2.2.2.2.length ≤ 32
  room : 0 ≤ d.1 ∧ d.1 ≤ 4194304
  free : safeSum none d.2.2.2.2 ≤ d.1
  steps : 0 ≤ d.2.1
  fuse : 0 ≤ d.2.2.1 ∧ d.2.2.1 ≤ 9223372036854775807
theorem rightB_size {s : ByteArray} (h : rightB s = true) : 1 ≤ s.size ∧ s.size ≤ 24 := by
  unfold rightB at h
  simp only [Bool.and_eq_true, decide_eq_true_eq] at h
  exact h.1
theorem hasE_mem {es : List (Rec × Ob)} {k : Rec} (h : hasE es k = true) : (k, obE es k) ∈ es := by
  induction es with
  | nil => cases h
  | cons e es ih =>
    obtain ⟨x, o⟩ := e
    by_cases hx : x = k
    · subst hx
      have : obE ((x, o) :: es) x = o := by simp [obE, getE]
      rw [this]
      exact List.mem_cons_self ..
    · have h1 : hasE es k = true := by simpa [hasE, getE, hx] using h
      have h2 : obE ((x, o) :: es) k = obE es k := by simp [obE, getE, hx]
      rw [h2]
      exact List.mem_cons_of_mem _ (ih h1)
theorem obE_none {es : List (Rec × Ob)} {k : Rec} (h : hasE es k = false) : obE es k = .node [] [] := by
  unfold hasE at h
  unfold obE
  cases hg : getE es k with
  | none => rfl
  | some o => rw [hg] at h; cases h
theorem setE_same {es : List (Rec × Ob)} {k : Rec} (h : hasE es k = true) : setE es k (obE es k) = es := by
  induction es with
  | nil => cases h
  | cons e es ih =>
    obtain ⟨x, o⟩ := e
    by_cases hx : x = k
    · subst hx
      simp [setE, obE, getE]
    · have h1 : hasE es k = true := by simpa [hasE, getE, hx] using h
      have h2 : obE ((x, o) :: es) k = obE es k := by simp [obE, getE, hx]
      rw [h2]
      simp [setE, hx, ih h1]
theorem Okd.canon {d : DkT} (h : Okd d) {k : Rec} (hk : hasE d.2.2.2.2 k = true) : fileOb (obD (obE d.2.2.2.2 k)) (obS (obE d.2.2.2.2 k)) = obE d.2.2.2.2 k := by
  obtain ⟨l, n, e, _⟩ := h.obs _ (hasE_mem hk)
  simp only at e
  rw [e]
  rfl
theorem Okd.back {d : DkT} (h : Okd d) {k : Rec} (hk : hasE d.2.2.2.2 k = true) : setE d.2.2.2.2 k (Ob.node [Fd.w (obD (obE d.2.2.2.2 k)), Fd.i (obS (obE d.2.2.2.2 k))] []) = d.2.2.2.2 := by
  have := h.canon hk
  unfold fileOb at this
  rw [this]
  exact setE_same hk
theorem Okd.ob {d : DkT} (h : Okd d) (k : Rec) : 0 ≤ obS (obE d.2.2.2.2 k) ∧ obS (obE d.2.2.2.2 k) ≤ ((obD (obE d.2.2.2.2 k)).length : Int) ∧ (obD (obE d.2.2.2.2 k)).length ≤ 140737488355328 := by
  cases hk : hasE d.2.2.2.2 k
  · rw [obE_none hk]
    exact ⟨by decide, by decide, by decide⟩
  · obtain ⟨l, n, e, h1, h2, h3⟩ := h.obs _ (hasE_mem hk)
    simp only at e
    rw [e]
    exact ⟨h1, h2, h3⟩
theorem safe_out : ∀ {es : List (Rec × Ob)} {k : Rec}, (es.map (·.1)).Nodup → es.map (safeOf (some (k, obS (obE es k)))) = es.map (safeOf none)
  | [], _, _ => rfl
  | (x, o) :: es, k, h => by
    simp only [List.map_cons, List.nodup_cons] at h
    by_cases hx : x = k
    · subst hx
      have h1 : obE ((x, o) :: es) x = o := by simp [obE, getE]
      rw [h1]
      simp only [List.map_cons, List.cons.injEq]
      refine ⟨by simp [safeOf], List.map_congr_left fun e he => ?_⟩
      have : e.1 ≠ x := fun hh => h.1 (List.mem_map.2 ⟨e, he, hh⟩)
      simp [safeOf, this]
    · have h2 : obE ((x, o) :: es) k = obE es k := by simp [obE, getE, hx]
      rw [h2]
      simp only [List.map_cons, List.cons.injEq]
      exact ⟨by simp [safeOf, hx], safe_out h.2⟩
theorem Okd.freeO {d : DkT} (h : Okd d) (k : Rec) : FreeOK (some (k, obS (obE d.2.2.2.2 k))) d.2.2.2.2 d.1 ∧ safeSum (some (k, obS (obE d.2.2.2.2 k))) d.2.2.2.2 = safeSum none d.2.2.2.2 := by
  have h1 := safe_out (k := k) h.nodup
  have h2 : safeSum (some (k, obS (obE d.2.2.2.2 k))) d.2.2.2.2 = safeSum none d.2.2.2.2 := by unfold safeSum; rw [h1]
  have h3 := h.room
  have h4 := h.free
  refine ⟨⟨fun e he => ?_, by omega, by omega, by omega⟩, h2⟩
  have : safeOf (some (k, obS (obE d.2.2.2.2 k))) e ∈ d.2.2.2.2.map (safeOf none) := by rw [← h1]; exact List.mem_map.2 ⟨e, he, rfl⟩
  obtain ⟨e', he', hee⟩ := List.mem_map.1 this
  rw [← hee]
  obtain ⟨l, n, e1, e2, _⟩ := h.obs e' he'
  show 0 ≤ obS e'.2
  rw [e1]
  exact e2
theorem Okd.freeN {d : DkT} (h : Okd d) : FreeOK none d.2.2.2.2 d.1 := by
  have h3 := h.room
  have h4 := h.free
  refine ⟨fun e he => ?_, by omega, by omega, by omega⟩
  obtain ⟨l, n, e1, e2, _⟩ := h.obs e he
  show 0 ≤ obS e.2
  rw [e1]
  exact e2
theorem errF_41 {dn : Bool} {es : List (Rec × Ob)} {s : ByteArray} (h : errF dn es s = 41) : dn = false ∧ rightB s = true ∧ hasE es [Fd.s s] = false := by
  unfold errF at h
  split at h
  · cases h
  · rename_i h1
    split at h
    · rename_i h2
      split at h
      · cases h
      · rename_i h3
        exact ⟨by simpa using h1, h2, by simpa using h3⟩
    · cases h
abbrev DkT.es (d : DkT) : List (Rec × Ob) := d.2.2.2.2
abbrev DkT.err (d : DkT) (s : ByteArray) : Int := errF d.2.2.2.1 d.2.2.2.2 s
def stp (d : DkT) (es' : List (Rec × Ob)) : DkT := (d.1, stSt d.2.2.1 d.2.1, stFu d.2.2.1, stDn d.2.2.1 d.2.2.2.1, es')
def fD (d : DkT) (s : ByteArray) : List Int := obD (obE d.2.2.2.2 [Fd.s s])
def fS (d : DkT) (s : ByteArray) : Int := obS (obE d.2.2.2.2 [Fd.s s])
def appendM (d : DkT) (s : ByteArray) (b : List Int) : Int × DkT :=
  if d.err s ≠ 0 ∧ d.err s ≠ 41 then (d.err s, d)
  else if d.err s = 41 ∧ 32 ≤ d.es.length then (43, d)
  else if 4194304 < (fD d s).length + b.length then (18, d)
  else (if stV d.2.2.1 = true then 0 else 2, stp d (setE d.es [Fd.s s] (fileOb (fD d s ++ b) (fS d s))))
def syncM (d : DkT) (s : ByteArray) : Int × DkT :=
  if d.err s ≠ 0 then (d.err s, d)
  else if d.1 - safeSum none d.es < ((fD d s).length : Int) - fS d s then (42, d)
  else if stV d.2.2.1 = true then (0, stp d (setE d.es [Fd.s s] (fileOb (fD d s) (fD d s).length))) else (2, stp d d.es)
def cutM (d : DkT) (s : ByteArray) (n : Int) : Int × DkT :=
  if d.err s ≠ 0 then (d.err s, d)
  else if n < 0 ∨ ((fD d s).length : Int) < n then (1, d)
  else if stV d.2.2.1 = true then (0, stp d (setE d.es [Fd.s s] (fileOb ((fD d s).take n.toNat) (if n < fS d s then n else fS d s)))) else (2, stp d d.es)
def moveM (d : DkT) (s t : ByteArray) : Int × DkT :=
  if d.err s ≠ 0 then (d.err s, d)
  else if rightB t = false then (40, d)
  else if stV d.2.2.1 = true then (0, stp d (setE (delE d.es [Fd.s s]) [Fd.s t] (fileOb (fD d s) (fS d s)))) else (2, stp d d.es)
def dropM (d : DkT) (s : ByteArray) : Int × DkT :=
  if d.err s ≠ 0 then (d.err s, d)
  else if stV d.2.2.1 = true then (0, stp d (delE d.es [Fd.s s])) else (2, stp d d.es)
def DkOK (d : DkT) : Prop := Okd d ∧ d.2.1 ≤ 4611686018427387904
theorem DkOK.step {d : DkT} (h : DkOK d) : StepOK d := ⟨⟨h.1.steps, h.2⟩, h.1.fuse⟩
theorem DkOK.stepE {d : DkT} (h : DkOK d) (es : List (Rec × Ob)) : StepOK (d.1, d.2.1, d.2.2.1, d.2.2.2.1, es) := ⟨⟨h.1.steps, h.2⟩, h.1.fuse⟩
def apRd (bs : List (BoxSt DF.τ)) : List (A0 DF.τ) → Option (DkT × ByteArray × List Int)
  | [.one (.ref 0 0), .one (.str s), .one (.words .u8 b)] => match dkRd bs with
    | some d => some (d, s, b)
    | none => none
  | _ => none
noncomputable def appendQ := mkF DF Try.f10.ntmps apRd (fun t => (dkBt t.1, [.one (.ref 0 0), .one (.str t.2.1), .one (.words .u8 t.2.2)]))
  (fun t => some (eV (appendM t.1 t.2.1 t.2.2).1, dkBt (appendM t.1 t.2.1 t.2.2).2, [DkOK t.1, t.2.1.size ≤ 9223372036854775807, t.2.2.length ≤ 4611686018427387904]))
theorem append_ok : OpOK Try.prog DF 10 appendQ := by
  refine opOK_mkG mixed Try.func10 (enters_of Try.func10 (by kernel_rfl) rfl) ?_
  rintro ⟨⟨ro, st, fu, dn, es⟩, s, b⟩ r' bs' ps h hps
  simp only [Option.some.injEq, Prod.mk.injEq] at h
  obtain ⟨rfl, rfl, rfl⟩ := h
  have hd : DkOK (ro, st, fu, dn, es) := hps (DkOK _) (by simp)
  have hs : s.size ≤ 9223372036854775807 := hps (s.size ≤ 9223372036854775807) (by simp)
  have hbl : b.length ≤ 4611686018427387904 := hps (b.length ≤ 4611686018427387904) (by simp)
  by_cases c0 : errF dn es s = 0
  · obtain ⟨e1, e2, e3⟩ := errF_ok c0
    have ho := hd.1.ob [Fd.s s]
    simp only at ho
    have hb := hd.1.back e3
    simp only at hb
    by_cases c1 : 4194304 < (obD (obE es [Fd.s s])).length + b.length
    · have hm : appendM (ro, st, fu, dn, es) s b = (18, (ro, st, fu, dn, es)) := by
        unfold appendM
        exact (if_neg (by simp [c0])).trans ((if_neg (by simp [c0])).trans (if_pos c1))
      rw [hm]
      exact ⟨_, _, _, gA0_ok, ap_big2 s b ro st fu _ dn es _ c0 hs ⟨by omega, by omega⟩ (decide_eq_true (by omega)) rfl rfl rfl hb⟩
    · have hm : appendM (ro, st, fu, dn, es) s b = (if stV fu = true then 0 else 2, stp (ro, st, fu, dn, es) (setE es [Fd.s s] (fileOb (fD (ro, st, fu, dn, es) s ++ b) (fS (ro, st, fu, dn, es) s)))) := by
        unfold appendM
        exact (if_neg (by simp [c0])).trans ((if_neg (by simp [c0])).trans (if_neg c1))
      rw [hm]
      by_cases c2 : stV fu = true
      · rw [if_pos c2]
        exact ⟨_, _, _, gA0_ok, ap_old1 s b ro st fu _ _ _ dn _ es _ c0 hs ⟨by omega, by omega⟩ (decide_eq_false (by omega)) (by omega) (by omega) c2 (hd.stepE _) rfl rfl rfl rfl rfl⟩
      · rw [if_neg c2]
        exact ⟨_, _, _, gA0_ok, ap_old0 s b ro st fu _ _ _ dn _ es _ c0 hs ⟨by omega, by omega⟩ (decide_eq_false (by omega)) (by omega) (by omega) (by simpa using c2) (hd.stepE _) rfl rfl rfl rfl rfl⟩
  by_cases c1 : errF dn es s = 41
  · obtain ⟨e1, e2, e3⟩ := errF_41 c1
    have hob := obE_none e3
    by_cases c2 : 32 ≤ es.length
    · have hm : appendM (ro, st, fu, dn, es) s b = (43, (ro, st, fu, dn, es)) := by
        unfold appendM
        exact (if_neg (by simp [c1])).trans (if_pos ⟨c1, c2⟩)
      rw [hm]
      exact ⟨_, _, _, gA1_ok, ap_many s b ro st fu _ dn es c0 hs (bne_iff_ne.2 c0) (by rw [c1]; rfl) (by rw [c1]; rfl) (decide_eq_true (by omega)) rfl⟩
    · have hw : IntKind.i64.wrap (4194304 - 0) = 4194304 := by decide
      have hl0 : (fD (ro, st, fu, dn, es) s).length = 0 := by unfold fD; simp only; rw [hob]; rfl
      by_cases c3 : 4194304 < b.length
      · have hm : appendM (ro, st, fu, dn, es) s b = (18, (ro, st, fu, dn, es)) := by
          unfold appendM
          exact (if_neg (by simp [c1])).trans ((if_neg (by simp [c2])).trans (if_pos (by rw [hl0]; omega)))
        rw [hm]
        exact ⟨_, _, _, gA1_ok, ap_big1 s b ro st fu _ dn es c0 hs (bne_iff_ne.2 c0) (by rw [c1]; rfl) (by rw [c1]; rfl) (decide_eq_false (by omega)) (decide_eq_true (by rw [hw]; omega)) rfl⟩
      · have hm : appendM (ro, st, fu, dn, es) s b = (if stV fu = true then 0 else 2, stp (ro, st, fu, dn, es) (setE es [Fd.s s] (fileOb (fD (ro, st, fu, dn, es) s ++ b) (fS (ro, st, fu, dn, es) s)))) := by
          unfold appendM
          exact (if_neg (by simp [c1])).trans ((if_neg (by simp [c2])).trans (if_neg (by rw [hl0]; omega)))
        have hes : setE es [Fd.s s] (Ob.node [Fd.w b, Fd.i 0] []) = setE es [Fd.s s] (fileOb (fD (ro, st, fu, dn, es) s ++ b) (fS (ro, st, fu, dn, es) s)) := by
          unfold fD fS
          simp only
          rw [hob]
          rfl
        rw [hm]
        by_cases c4 : stV fu = true
        · rw [if_pos c4]
          exact ⟨_, _, _, gA1_ok, ap_new1 s b ro st fu _ _ _ dn _ es _ c0 hs (bne_iff_ne.2 c0) (by rw [c1]; rfl) (by rw [c1]; rfl) (decide_eq_false (by omega)) (decide_eq_false (by rw [hw]; omega)) (by omega) (by omega) c4 (hd.stepE _) rfl rfl rfl rfl hes⟩
        · rw [if_neg c4]
          exact ⟨_, _, _, gA1_ok, ap_new0 s b ro st fu _ _ _ dn _ es _ c0 hs (bne_iff_ne.2 c0) (by rw [c1]; rfl) (by rw [c1]; rfl) (decide_eq_false (by omega)) (decide_eq_false (by rw [hw]; omega)) (by omega) (by omega) (by simpa using c4) (hd.stepE _) rfl rfl rfl rfl hes⟩
  · have hm : appendM (ro, st, fu, dn, es) s b = (errF dn es s, (ro, st, fu, dn, es)) := by
      unfold appendM
      exact if_pos ⟨c0, c1⟩
    rw [hm]
    exact ⟨_, _, _, gA1_ok, ap_bad s b ro st fu _ dn es c0 hs (bne_iff_ne.2 c0) (bne_iff_ne.2 c1) rfl⟩
noncomputable def syncQ := mkF DF Try.f12.ntmps fiRd fiPre (fun t => some (eV (syncM t.1 t.2).1, dkBt (syncM t.1 t.2).2, [DkOK t.1, t.2.size ≤ 9223372036854775807]))
theorem sync_ok : OpOK Try.prog DF 12 syncQ := by
  refine opOK_mkG mixed Try.func12 (enters_of Try.func12 (by kernel_rfl) rfl) ?_
  rintro ⟨⟨ro, st, fu, dn, es⟩, s⟩ r' bs' ps h hps
  simp only [Option.some.injEq, Prod.mk.injEq] at h
  obtain ⟨rfl, rfl, rfl⟩ := h
  have hd : DkOK (ro, st, fu, dn, es) := hps (DkOK _) (by simp)
  have hs : s.size ≤ 9223372036854775807 := hps (s.size ≤ 9223372036854775807) (by simp)
  by_cases c0 : errF dn es s = 0
  · obtain ⟨e1, e2, e3⟩ := errF_ok c0
    have ho := hd.1.ob [Fd.s s]
    have hb := hd.1.back e3
    obtain ⟨hf, hfs⟩ := hd.1.freeO [Fd.s s]
    simp only at ho hb hf hfs
    by_cases c1 : ro - safeSum none es < ((obD (obE es [Fd.s s])).length : Int) - obS (obE es [Fd.s s])
    · have hm : syncM (ro, st, fu, dn, es) s = (42, (ro, st, fu, dn, es)) := by
        unfold syncM
        exact (if_neg (by simp [c0])).trans (if_pos c1)
      rw [hm]
      exact ⟨_, _, _, gA0_ok, sy_full s ro st fu _ dn es _ c0 hs ⟨by omega, by omega⟩ hf (decide_eq_true (by rw [hfs]; omega)) rfl rfl rfl hb⟩
    · by_cases c2 : stV fu = true
      · have hm : syncM (ro, st, fu, dn, es) s = (0, stp (ro, st, fu, dn, es) (setE es [Fd.s s] (fileOb (fD (ro, st, fu, dn, es) s) (fD (ro, st, fu, dn, es) s).length))) := by
          unfold syncM
          exact (if_neg (by simp [c0])).trans ((if_neg c1).trans (if_pos c2))
        rw [hm]
        exact ⟨_, _, _, gA0_ok, sy_down s ro st fu _ _ _ dn _ es _ c0 hs ⟨by omega, by omega⟩ hf (decide_eq_false (by rw [hfs]; omega)) c2 hd.step rfl rfl rfl rfl rfl⟩
      · have hm : syncM (ro, st, fu, dn, es) s = (2, stp (ro, st, fu, dn, es) es) := by
          unfold syncM
          exact (if_neg (by simp [c0])).trans ((if_neg c1).trans (if_neg c2))
        rw [hm]
        exact ⟨_, _, _, gA0_ok, sy_ok s ro st fu _ _ _ dn _ es _ c0 hs ⟨by omega, by omega⟩ hf (decide_eq_false (by rw [hfs]; omega)) (by simpa using c2) hd.step rfl rfl rfl rfl rfl rfl hb⟩
  · have hm : syncM (ro, st, fu, dn, es) s = (errF dn es s, (ro, st, fu, dn, es)) := by
      unfold syncM
      exact if_pos c0
    rw [hm]
    exact ⟨_, _, _, gA1_ok, sy_bad s ro st fu _ dn es c0 hs (bne_iff_ne.2 c0) rfl⟩
def cuRd (bs : List (BoxSt DF.τ)) : List (A0 DF.τ) → Option (DkT × ByteArray × Int)
  | [.one (.ref 0 0), .one (.str s), .one (.int .i64 _ n)] => match dkRd bs with
    | some d => some (d, s, n)
    | none => none
  | _ => none
noncomputable def cutQ := mkF DF Try.f21.ntmps cuRd (fun t => (dkBt t.1, [.one (.ref 0 0), .one (.str t.2.1), .one (.int .i64 false t.2.2)]))
  (fun t => some (eV (cutM t.1 t.2.1 t.2.2).1, dkBt (cutM t.1 t.2.1 t.2.2).2, [DkOK t.1, t.2.1.size ≤ 9223372036854775807]))
theorem cut_ok : OpOK Try.prog DF 21 cutQ := by
  refine opOK_mkG mixed Try.func21 (enters_of Try.func21 (by kernel_rfl) rfl) ?_
  rintro ⟨⟨ro, st, fu, dn, es⟩, s, n⟩ r' bs' ps h hps
  simp only [Option.some.injEq, Prod.mk.injEq] at h
  obtain ⟨rfl, rfl, rfl⟩ := h
  have hd : DkOK (ro, st, fu, dn, es) := hps (DkOK _) (by simp)
  have hs : s.size ≤ 9223372036854775807 := hps (s.size ≤ 9223372036854775807) (by simp)
  by_cases c0 : errF dn es s = 0
  · obtain ⟨e1, e2, e3⟩ := errF_ok c0
    have hb := hd.1.back e3
    simp only at hb
    by_cases c1 : n < 0
    · have hm : cutM (ro, st, fu, dn, es) s n = (1, (ro, st, fu, dn, es)) := by
        unfold cutM
        exact (if_neg (by simp [c0])).trans (if_pos (Or.inl c1))
      rw [hm]
      exact ⟨_, _, _, gA0_ok, cu_neg s n ro st fu _ dn es _ c0 hs (decide_eq_true c1) rfl rfl rfl hb⟩
    by_cases c2 : ((obD (obE es [Fd.s s])).length : Int) < n
    · have hm : cutM (ro, st, fu, dn, es) s n = (1, (ro, st, fu, dn, es)) := by
        unfold cutM
        exact (if_neg (by simp [c0])).trans (if_pos (Or.inr c2))
      rw [hm]
      exact ⟨_, _, _, gA0_ok, cu_arg s n ro st fu _ dn es _ c0 hs (decide_eq_false c1) (decide_eq_true c2) rfl rfl rfl hb⟩
    by_cases c3 : stV fu = true
    · have hm : cutM (ro, st, fu, dn, es) s n = (0, stp (ro, st, fu, dn, es) (setE es [Fd.s s] (fileOb ((fD (ro, st, fu, dn, es) s).take n.toNat) (if n < fS (ro, st, fu, dn, es) s then n else fS (ro, st, fu, dn, es) s)))) := by
        unfold cutM
        exact (if_neg (by simp [c0])).trans ((if_neg (fun h => h.elim c1 c2)).trans (if_pos c3))
      rw [hm]
      exact ⟨_, _, _, gA0_ok, cu_down s n ro st fu _ _ _ dn _ es _ c0 hs (decide_eq_false c1) (decide_eq_false c2) c3 hd.step (by omega) (by omega) rfl rfl rfl rfl rfl⟩
    · have hm : cutM (ro, st, fu, dn, es) s n = (2, stp (ro, st, fu, dn, es) es) := by
        unfold cutM
        exact (if_neg (by simp [c0])).trans ((if_neg (fun h => h.elim c1 c2)).trans (if_neg c3))
      rw [hm]
      exact ⟨_, _, _, gA0_ok, cu_ok s n ro st fu _ _ _ dn _ es _ c0 hs (decide_eq_false c1) (decide_eq_false c2) (by simpa using c3) hd.step rfl rfl rfl rfl rfl rfl hb⟩
  · have hm : cutM (ro, st, fu, dn, es) s n = (errF dn es s, (ro, st, fu, dn, es)) := by
      unfold cutM
      exact if_pos c0
    rw [hm]
    exact ⟨_, _, _, gA1_ok, cu_bad s n ro st fu _ dn es c0 hs (bne_iff_ne.2 c0) rfl⟩
def mvRd (bs : List (BoxSt DF.τ)) : List (A0 DF.τ) → Option (DkT × ByteArray × ByteArray)
  | [.one (.ref 0 0), .one (.str s), .one (.str t)] => match dkRd bs with
    | some d => some (d, s, t)
    | none => none
  | _ => none
noncomputable def moveQ := mkF DF Try.f37.ntmps mvRd (fun t => (dkBt t.1, [.one (.ref 0 0), .one (.str t.2.1), .one (.str t.2.2)]))
  (fun t => some (eV (moveM t.1 t.2.1 t.2.2).1, dkBt (moveM t.1 t.2.1 t.2.2).2, [DkOK t.1, t.2.1.size ≤ 9223372036854775807, t.2.2.size ≤ 9223372036854775807]))
theorem move_ok : OpOK Try.prog DF 37 moveQ := by
  refine opOK_mkG mixed Try.func37 (enters_of Try.func37 (by kernel_rfl) rfl) ?_
  rintro ⟨⟨ro, st, fu, dn, es⟩, s, t⟩ r' bs' ps h hps
  simp only [Option.some.injEq, Prod.mk.injEq] at h
  obtain ⟨rfl, rfl, rfl⟩ := h
  have hd : DkOK (ro, st, fu, dn, es) := hps (DkOK _) (by simp)
  have hs : s.size ≤ 9223372036854775807 := hps (s.size ≤ 9223372036854775807) (by simp)
  have ht : t.size ≤ 9223372036854775807 := hps (t.size ≤ 9223372036854775807) (by simp)
  by_cases c0 : errF dn es s = 0
  · obtain ⟨e1, e2, e3⟩ := errF_ok c0
    have hb := hd.1.back e3
    simp only at hb
    by_cases c1 : rightB t = false
    · have hm : moveM (ro, st, fu, dn, es) s t = (40, (ro, st, fu, dn, es)) := by
        unfold moveM
        exact (if_neg (by simp [c0])).trans (if_pos c1)
      rw [hm]
      exact ⟨_, _, _, gA0_ok, mv_name s t ro st fu _ dn es _ c0 hs c1 ht rfl rfl rfl hb⟩
    by_cases c3 : stV fu = true
    · have hm : moveM (ro, st, fu, dn, es) s t = (0, stp (ro, st, fu, dn, es) (setE (delE es [Fd.s s]) [Fd.s t] (fileOb (fD (ro, st, fu, dn, es) s) (fS (ro, st, fu, dn, es) s)))) := by
        unfold moveM
        exact (if_neg (by simp [c0])).trans ((if_neg c1).trans (if_pos c3))
      rw [hm]
      exact ⟨_, _, _, gA0_ok, mv_down s t ro st fu _ _ _ dn _ es _ c0 hs (by simpa using c1) ht c3 hd.step keyT_str rfl rfl rfl rfl rfl rfl⟩
    · have hm : moveM (ro, st, fu, dn, es) s t = (2, stp (ro, st, fu, dn, es) es) := by
        unfold moveM
        exact (if_neg (by simp [c0])).trans ((if_neg c1).trans (if_neg c3))
      rw [hm]
      exact ⟨_, _, _, gA0_ok, mv_ok s t ro st fu _ _ _ dn _ es _ c0 hs (by simpa using c1) ht (by simpa using c3) hd.step rfl rfl rfl rfl rfl rfl hb⟩
  · have hm : moveM (ro, st, fu, dn, es) s t = (errF dn es s, (ro, st, fu, dn, es)) := by
      unfold moveM
      exact if_pos c0
    rw [hm]
    exact ⟨_, _, _, gA1_ok, mv_bad s t ro st fu _ dn es c0 hs (bne_iff_ne.2 c0) rfl⟩
noncomputable def dropQ := mkF DF Try.f20.ntmps fiRd fiPre (fun t => some (eV (dropM t.1 t.2).1, dkBt (dropM t.1 t.2).2, [DkOK t.1, t.2.size ≤ 9223372036854775807]))
theorem drop_ok : OpOK Try.prog DF 20 dropQ := by
  refine opOK_mkG mixed Try.func20 (enters_of Try.func20 (by kernel_rfl) rfl) ?_
  rintro ⟨⟨ro, st, fu, dn, es⟩, s⟩ r' bs' ps h hps
  simp only [Option.some.injEq, Prod.mk.injEq] at h
  obtain ⟨rfl, rfl, rfl⟩ := h
  have hd : DkOK (ro, st, fu, dn, es) := hps (DkOK _) (by simp)
  have hs : s.size ≤ 9223372036854775807 := hps (s.size ≤ 9223372036854775807) (by simp)
  by_cases c0 : errF dn es s = 0
  · obtain ⟨e1, e2, e3⟩ := errF_ok c0
    have hb := hd.1.back e3
    simp only at hb
    by_cases c3 : stV fu = true
    · have hm : dropM (ro, st, fu, dn, es) s = (0, stp (ro, st, fu, dn, es) (delE es [Fd.s s])) := by
        unfold dropM
        exact (if_neg (by simp [c0])).trans (if_pos c3)
      rw [hm]
      exact ⟨_, _, _, gA0_ok, dr_down s ro st fu _ _ _ dn _ es _ c0 hs c3 hd.step keyT_str rfl rfl rfl rfl rfl rfl⟩
    · have hm : dropM (ro, st, fu, dn, es) s = (2, stp (ro, st, fu, dn, es) es) := by
        unfold dropM
        exact (if_neg (by simp [c0])).trans (if_neg c3)
      rw [hm]
      exact ⟨_, _, _, gA0_ok, dr_ok s ro st fu _ _ _ dn _ es _ c0 hs (by simpa using c3) hd.step rfl rfl rfl rfl rfl rfl hb⟩
  · have hm : dropM (ro, st, fu, dn, es) s = (errF dn es s, (ro, st, fu, dn, es)) := by
      unfold dropM
      exact if_pos c0
    rw [hm]
    exact ⟨_, _, _, gA1_ok, dr_bad s ro st fu _ dn es c0 hs (bne_iff_ne.2 c0) rfl⟩
end Go.Num
namespace Go.Num
open Go.Abs Go.Proofs Go.Shelf Go.RowKit
def clD : FnD DF
  | [.one (.words .u8 l)] => some (.v (.one (.fresh 0 5 .u8 l)), [l.length ≤ 140737488355328])
  | _ => none
theorem clone_nil  :
 ∃ ps, runF Try.prog DF [] 100 Try.f35 [.one .nil] [] = some ((AV.v (A0.one (Part.nil))), ps) ∧ AllQ ps := ⟨_, by kernel_rfl, qn⟩
theorem clone_some (l : List Int)
 (h1 : (((0 : Nat) + (List.length l)) ≤ (9223372036854775807 : Nat)))
 (h2 : ((((0 : Nat) + (List.length l)) * (1 : Nat)) ≤ (140737488355328 : Nat))) :
 ∃ ps, runF Try.prog DF [] 100 Try.f35 [.one (.nnw .u8 l)] [] = some ((AV.v (A0.one (Part.fresh (0 : Nat) (5 : Nat) Go.IntKind.u8 (([] : List (Int)) ++ l)))), ps) ∧ AllQ ps := ⟨_, by kernel_rfl, qc h1 (qc h2 (qn))⟩
theorem clone_ok : FnOK Try.prog DF 35 clD := by
  intro xs r ps hF hps w vs hgl hx
  unfold clD at hF
  split at hF
  · rename_i l
    simp only [Option.some.injEq, Prod.mk.injEq] at hF
    obtain ⟨rfl, rfl⟩ := hF
    have hlen : l.length ≤ 140737488355328 := hps _ (List.mem_cons_self ..)
    obtain ⟨v, us, rfl, ⟨hone, u, hu, M, W, hB, hS⟩, h3⟩ := hx
    cases h3
    simp only [List.cons.injEq, and_true] at hu
    subst hu
    have h2 : SlRel (cenv w).M (cenv w).w0 .u8 l v := by
      rcases hB with ⟨rfl, rfl⟩ | ⟨rfl, rfl⟩
      · exact hS
      · obtain ⟨ao, cap, e, q1, q2, q3, q4⟩ := hS
        refine ⟨ao, cap, e, q1, q2, q3, fun i hi => ?_⟩
        obtain ⟨b, off, r1, r2, r3⟩ := q4 i hi
        exact ⟨b, off, r1, fun h => h.elim, r3⟩
    obtain ⟨ao, cap, rfl, q1, q2, q3, q4⟩ := h2
    refine ⟨_, enters_of Try.func35 (by kernel_rfl) rfl _ w, ?_⟩
    cases ao with
    | none =>
      have hc := q3 rfl
      subst hc
      have hl0 : l = [] := List.length_eq_zero_iff.1 (by omega)
      subst hl0
      obtain ⟨ps, r1, r2⟩ := clone_nil
      refine (runF_calls gam_nil mixed Try.func35 r1 r2 hgl ⟨_, [], rfl, ⟨rfl, rfl⟩, rfl⟩).mono ?_
      rintro e w' ⟨v, he, ⟨ν, _, hr⟩, hb⟩
      have hv : [v] = [Value.slice none 0 0] := hr.2
      simp only [List.cons.injEq, and_true] at hv
      subst hv
      exact ⟨_, he, ⟨nilν, nilν_disj, rfl, fresh_nil⟩, hb⟩
    | some a =>
      obtain ⟨ps, r1, r2⟩ := clone_some l (by omega) (by omega)
      refine (runF_calls gam_nil mixed Try.func35 r1 r2 hgl ⟨_, [], rfl, ⟨rfl, a, l.length, cap, rfl, some a, cap, rfl, q1, q2, q3, q4⟩, rfl⟩).mono ?_
      rintro e w' ⟨v, he, hr, hb⟩
      exact ⟨v, he, hr, hb⟩
  · cases hF
noncomputable def gR1 : Gam DF := [(31, .op [true, false] findBadQ)]
noncomputable def gR0 : Gam DF := [(31, .op [true, false] findOkQ), (35, .fn clD)]
def rdV (e : Int) : AV DF.τ := .tup [.one (.own 2), .one (.int .i64 false e)]
theorem re_bad (s : ByteArray) (ro st fu e : Int) (dn : Bool) (es : List (Rec × Ob)) (l : List Int)
 (h1 : ((errF dn es s) ≠ (0 : Int)))
 (h2 : ((ByteArray.size s) ≤ (9223372036854775807 : Nat)))
 (h3 : (((errF dn es s) != (0 : Int)) = true))
 (h4 : ((errF dn es s) = e))
 (h5 : (([] : List (Int)) = l)) :
 ∃ ps, runO Try.prog DF gR1 100 Try.f15 (dkB ro st fu dn es, [.one (.ref 0 0), .one (.str s)]) [.is true] (rdV e) (dkB ro st fu dn es ++ [dynB l]) = some ps ∧ AllQ ps := ⟨_, by kernel_rfl, qc (Eq.refl s) (qc (Eq.refl ro) (qc (Eq.refl st) (qc (Eq.refl fu) (qc (Eq.refl dn) (qc (Eq.refl es) (qc h1 (qc h2 (qc h3 (qc h4 (qc (Eq.refl ro) (qc (Eq.refl st) (qc (Eq.refl fu) (qc (Eq.refl dn) (qc (Eq.refl es) (qc h5 (qn))))))))))))))))⟩
theorem re_ok (s : ByteArray) (ro st fu e : Int) (dn : Bool) (es es' : List (Rec × Ob)) (l : List Int)
 (h1 : ((errF dn es s) = (0 : Int)))
 (h2 : ((ByteArray.size s) ≤ (9223372036854775807 : Nat)))
 (h3 : ((List.length (obD (obE es [(Fd.s s)]))) ≤ (140737488355328 : Nat)))
 (h4 : ((obS (obE es [(Fd.s s)])) = (obS (Ob.node [(Fd.w (obD (obE es [(Fd.s s)]))), (Fd.i (obS (obE es [(Fd.s s)])))] ([] : List (List (Rec × Ob)))))))
 (h5 : ((obD (obE es [(Fd.s s)])) = (obD (Ob.node [(Fd.w (obD (obE es [(Fd.s s)]))), (Fd.i (obS (obE es [(Fd.s s)])))] ([] : List (List (Rec × Ob)))))))
 (h6 : ((0 : Int) = e))
 (h7 : ((setE es [(Fd.s s)] (Ob.node [(Fd.w (obD (obE es [(Fd.s s)]))), (Fd.i (obS (obE es [(Fd.s s)])))] ([] : List (List (Rec × Ob))))) = es'))
 (h8 : ((obD (obE es [(Fd.s s)])) = l)) :
 ∃ ps, runO Try.prog DF gR0 100 Try.f15 (dkB ro st fu dn es, [.one (.ref 0 0), .one (.str s)]) [] (rdV e) (dkB ro st fu dn es' ++ [dynB l]) = some ps ∧ AllQ ps := ⟨_, by kernel_rfl, qc (Eq.refl s) (qc (Eq.refl ro) (qc (Eq.refl st) (qc (Eq.refl fu) (qc (Eq.refl dn) (qc (Eq.refl es) (qc h1 (qc h2 (qc h3 (qc h4 (qc h5 (qc h6 (qc (Eq.refl ro) (qc (Eq.refl st) (qc (Eq.refl fu) (qc (Eq.refl dn) (qc h7 (qc h8 (qn))))))))))))))))))⟩
theorem fu_run (n ro st fu fu' : Int) (dn : Bool) (es : List (Rec × Ob))
 (h1 : ((if ((0 : Int) > n) then (0 : Int) else n) = fu')) :
 ∃ ps, runO Try.prog DF [] 100 Try.f13 (dkB ro st fu dn es, [.one (.ref 0 0), .one (.int .i64 false n)]) [] (.tup []) (dkB ro st fu' dn es) = some ps ∧ AllQ ps := ⟨_, by kernel_rfl, qc (Eq.refl ro) (qc (Eq.refl st) (qc h1 (qc (Eq.refl dn) (qc (Eq.refl es) (qn)))))⟩
theorem ss_run (ro st fu : Int) (dn : Bool) (es : List (Rec × Ob)) :
 ∃ ps, runO Try.prog DF [] 100 Try.f23 (dkB ro st fu dn es, [.one (.ref 0 0)]) [] (eV st) (dkB ro st fu dn es) = some ps ∧ AllQ ps := ⟨_, by kernel_rfl, qc (Eq.refl st) (qc (Eq.refl ro) (qc (Eq.refl st) (qc (Eq.refl fu) (qc (Eq.refl dn) (qc (Eq.refl es) (qn))))))⟩
theorem dw_run (ro st fu : Int) (dn : Bool) (es : List (Rec × Ob)) :
 ∃ ps, runO Try.prog DF [] 100 Try.f24 (dkB ro st fu dn es, [.one (.ref 0 0)]) [.keep, .keep, .keep] (.v (.one (.bool false dn))) (dkB ro st fu dn es) = some ps ∧ AllQ ps := ⟨_, by kernel_rfl, qc (Eq.refl dn) (qc (Eq.refl ro) (qc (Eq.refl st) (qc (Eq.refl fu) (qc (Eq.refl dn) (qc (Eq.refl es) (qn))))))⟩
theorem ne_run (n ro : Int)
 (h1 : ((if ((4194304 : Int) < (if ((0 : Int) > n) then (0 : Int) else n)) then (4194304 : Int) else (if ((0 : Int) > n) then (0 : Int) else n)) = ro)) :
 ∃ ps, runO Try.prog DF [] 100 Try.f8 ([], [.one (.int .i64 false n)]) [] (.v (.one (.ref 0 0))) (dkB ro 0 0 false []) = some ps ∧ AllQ ps := ⟨_, by kernel_rfl, qc h1 (qc (Eq.refl ((0 : Int))) (qc (Eq.refl ((0 : Int))) (qc (Eq.refl false) (qc (Eq.refl (([] : List (Rec × Ob)))) (qn)))))⟩
noncomputable def gN : Gam DF := [(34, .op [true] namesQ), (35, .fz clD), (17, .rd [true] freeR), (32, .op [true, false, true] keepQ)]
def nmB (ns : List Rec) : BoxSt DF.τ := .dyn 9 (.lrs [.str] ns)
def fSh : List FK := [.str, .words .u8, .int .i64]
def imB (ns : List Rec) : BoxSt DF.τ := .dyn 46 (.lrs fSh ns)
theorem li_down (ro st fu : Int) (dn : Bool) (es : List (Rec × Ob)) (ns : List Rec)
 (h1 : (dn = true))
 (h2 : (([] : List (Rec)) = ns)) :
 ∃ ps, runO Try.prog DF gN 100 Try.f25 (dkB ro st fu dn es, [.one (.ref 0 0)]) [.is true, .keep] (.v (.one (.own 2))) (dkB ro st fu dn es ++ [nmB ns]) = some ps ∧ AllQ ps := ⟨_, by kernel_rfl, qc h1 (qc (Eq.refl ro) (qc (Eq.refl st) (qc (Eq.refl fu) (qc (Eq.refl dn) (qc (Eq.refl es) (qc h2 (qn)))))))⟩
theorem li_run (ro st fu : Int) (dn : Bool) (es : List (Rec × Ob)) (ns : List Rec)
 (h1 : (dn = false))
 (h2 : (Short es))
 (h3 : ((sortK es) = ns)) :
 ∃ ps, runO Try.prog DF gN 100 Try.f25 (dkB ro st fu dn es, [.one (.ref 0 0)]) [.is false] (.v (.one (.own 2))) (dkB ro st fu dn es ++ [nmB ns]) = some ps ∧ AllQ ps := ⟨_, by kernel_rfl, qc h1 (qc h2 (qc (Eq.refl ro) (qc (Eq.refl st) (qc (Eq.refl fu) (qc (Eq.refl dn) (qc (Eq.refl es) (qc h3 (qn))))))))⟩
def imSn (ro st fu : Int) (dn : Bool) (es : List (Rec × Ob)) (ns rs : List Rec) (k : Int) : Sn DF.τ where
  slots := [(0, .v (.one (.ref 0 0))), (3, .v (.one (.own 3))), (10, .v (.one (.own 2))), (11, .v (.one (.int .i64 false ns.length))), (12, .v (.one (.int .i64 false k)))]
  boxes := enumB 0 (dkB ro st fu dn es ++ [nmB ns, imB rs])
  nt := 34
  np := 2
def imEnd (ro st fu : Int) (dn : Bool) (es : List (Rec × Ob)) (rs : List Rec) : Sn DF.τ where
  slots := [(0, .v (.one (.ref 0 0))), (3, .v (.one (.own 3)))]
  boxes := enumB 0 (dkB ro st fu dn es) ++ [(3, imB rs)]
  nt := 34
  np := 2
theorem im_step (ro st fu : Int) (dn : Bool) (es : List (Rec × Ob)) (ns rs rs' : List Rec) (k k' : Int)
 (h1 : ((decide (k < (((List.length ns) : Nat) : Int))) = true))
 (h2 : ((0 : Int) ≤ k))
 (h3 : (k < (((List.length ns) : Nat) : Int)))
 (h4 : ((Int.toNat k) < (List.length ns)))
 (h5 : (KeyT Try.prog (9 : TypeId) false [FK.str]))
 (h6 : ((keyOK [FK.str] [(Fd.s (recS (List.getD ns (Int.toNat k) ([] : List (Abs.Fd))) (0 : Nat)))]) = true))
 (h7 : ((hasE es [(Fd.s (recS (List.getD ns (Int.toNat k) ([] : List (Abs.Fd))) (0 : Nat)))]) = true))
 (h8 : ((List.length (obD (obE es [(Fd.s (recS (List.getD ns (Int.toNat k) ([] : List (Abs.Fd))) (0 : Nat)))]))) ≤ (140737488355328 : Nat)))
 (h9 : ((((List.length rs) + (1 : Nat)) * (48 : Nat)) ≤ (140737488355328 : Nat)))
 (h10 : (((List.length rs) + (1 : Nat)) ≤ (9223372036854775807 : Nat)))
 (h11 : (InI64 (k + (1 : Int))))
 (h12 : ((obS (obE es [(Fd.s (recS (List.getD ns (Int.toNat k) ([] : List (Abs.Fd))) (0 : Nat)))])) = (obS (Ob.node [(Fd.w (obD (obE es [(Fd.s (recS (List.getD ns (Int.toNat k) ([] : List (Abs.Fd))) (0 : Nat)))]))), (Fd.i (obS (obE es [(Fd.s (recS (List.getD ns (Int.toNat k) ([] : List (Abs.Fd))) (0 : Nat)))])))] ([] : List (List (Rec × Ob)))))))
 (h13 : ((obD (obE es [(Fd.s (recS (List.getD ns (Int.toNat k) ([] : List (Abs.Fd))) (0 : Nat)))])) = (obD (Ob.node [(Fd.w (obD (obE es [(Fd.s (recS (List.getD ns (Int.toNat k) ([] : List (Abs.Fd))) (0 : Nat)))]))), (Fd.i (obS (obE es [(Fd.s (recS (List.getD ns (Int.toNat k) ([] : List (Abs.Fd))) (0 : Nat)))])))] ([] : List (List (Rec × Ob)))))))
 (h14 : ((k + (1 : Int)) = k'))
 (h15 : ((setE es [(Fd.s (recS (List.getD ns (Int.toNat k) ([] : List (Abs.Fd))) (0 : Nat)))] (Ob.node [(Fd.w (obD (obE es [(Fd.s (recS (List.getD ns (Int.toNat k) ([] : List (Abs.Fd))) (0 : Nat)))]))), (Fd.i (obS (obE es [(Fd.s (recS (List.getD ns (Int.toNat k) ([] : List (Abs.Fd))) (0 : Nat)))])))] ([] : List (List (Rec × Ob))))) = es))
 (h16 : ((rs ++ [[(Fd.s (recS (List.getD ns (Int.toNat k) ([] : List (Abs.Fd))) (0 : Nat))), (Fd.w (obD (obE es [(Fd.s (recS (List.getD ns (Int.toNat k) ([] : List (Abs.Fd))) (0 : Nat)))]))), (Fd.i (obS (obE es [(Fd.s (recS (List.getD ns (Int.toNat k) ([] : List (Abs.Fd))) (0 : Nat)))])))]]) = rs')) :
 ∃ ps, stepPs Try.prog DF gN 100 (bodyN Try.f18 0) 100 (imSn ro st fu dn es ns rs k).st [.is true] .normal (imSn ro st fu dn es ns rs' k') = some ps ∧ AllQ ps := ⟨_, by kernel_rfl, qc h1 (qc h2 (qc h3 (qc h4 (qc h5 (qc h6 (qc h7 (qc h8 (qc h9 (qc h10 (qc h11 (qc h12 (qc h13 (qc (Eq.refl ((((List.length ns) : Nat) : Int))) (qc h14 (qc (Eq.refl ro) (qc (Eq.refl st) (qc (Eq.refl fu) (qc (Eq.refl dn) (qc h15 (qc (Eq.refl ns) (qc h16 (qn))))))))))))))))))))))⟩
theorem im_exit (ro st fu : Int) (dn : Bool) (es : List (Rec × Ob)) (ns rs : List Rec) (k : Int)
 (h1 : ((decide (k < (((List.length ns) : Nat) : Int))) = false)) :
 ∃ ps, stepPs Try.prog DF gN 100 (bodyN Try.f18 0) 100 (imSn ro st fu dn es ns rs k).st [.is false] (.exit 0) (imEnd ro st fu dn es rs) = some ps ∧ AllQ ps := ⟨_, by kernel_rfl, qc h1 (qc (Eq.refl ro) (qc (Eq.refl st) (qc (Eq.refl fu) (qc (Eq.refl dn) (qc (Eq.refl es) (qc (Eq.refl rs) (qn)))))))⟩
theorem im_run (ro st fu : Int) (dn : Bool) (es : List (Rec × Ob)) (ns rs : List Rec)
 (h1 : (Short es))
 (h2 : SumOK Try.prog DF (bodyN Try.f18 0) (loopL DF (imSn ro st fu dn es ns [] (0 : Nat)) (.exit 0) (imEnd ro st fu dn es rs)))
 (h3 : ((((List.length (sortK es)) : Nat) : Int) = (((List.length ns) : Nat) : Int)))
 (h4 : ((sortK es) = ns)) :
 ∃ ps, runO Try.prog DF gN 100 Try.f18 (dkB ro st fu dn es, [.one (.ref 0 0)]) [.loop (loopL DF (imSn ro st fu dn es ns [] (0 : Nat)) (.exit 0) (imEnd ro st fu dn es rs))] (.v (.one (.own 2))) (dkB ro st fu dn es ++ [imB rs]) = some ps ∧ AllQ ps := ⟨_, by kernel_rfl, qc h1 (qc h2 (qc h3 (qc (show ((0 : Int) = (((0 : Nat) : Nat) : Int)) from by decide) (qc (Eq.refl ro) (qc (Eq.refl st) (qc (Eq.refl fu) (qc (Eq.refl dn) (qc (Eq.refl es) (qc h4 (qc (Eq.refl (([] : List (Rec)))) (qc (Eq.refl ro) (qc (Eq.refl st) (qc (Eq.refl fu) (qc (Eq.refl dn) (qc (Eq.refl es) (qc (Eq.refl rs) (qn)))))))))))))))))⟩
def crSn (ro st fu : Int) (dn : Bool) (keep : List Int) (free : Int) (es : List (Rec × Ob)) (ns : List Rec) (k : Int) : Sn DF.τ where
  slots := [(0, .v (.one (.ref 0 0))), (1, .v (.one (.words .i64 keep))), (4, .v (.one (.int .i64 false free))), (14, .v (.one (.own 2))), (15, .v (.one (.int .i64 false ns.length))), (16, .v (.one (.int .i64 false k)))]
  boxes := enumB 0 (dkB ro st fu dn es ++ [nmB ns])
  nt := 69
  np := 2
def crEnd (ro st fu : Int) (dn : Bool) (es : List (Rec × Ob)) : Sn DF.τ where
  slots := [(0, .v (.one (.ref 0 0)))]
  boxes := enumB 0 (dkB ro st fu dn es)
  nt := 69
  np := 2
theorem cr_in (ro st fu free free' : Int) (keep : List Int) (dn : Bool) (es es' : List (Rec × Ob)) (ns : List Rec) (k k' : Int)
 (h1 : ((decide (k < (((List.length ns) : Nat) : Int))) = true))
 (h2 : ((0 : Int) ≤ k))
 (h3 : (k < (((List.length ns) : Nat) : Int)))
 (h4 : ((Int.toNat k) < (List.length ns)))
 (h5 : (KeyT Try.prog (9 : TypeId) false [FK.str]))
 (h6 : ((keyOK [FK.str] [(Fd.s (recS (List.getD ns (Int.toNat k) ([] : List (Abs.Fd))) (0 : Nat)))]) = true))
 (h7 : ((hasE es [(Fd.s (recS (List.getD ns (Int.toNat k) ([] : List (Abs.Fd))) (0 : Nat)))]) = true))
 (h8 : ((decide (k < (((List.length keep) : Nat) : Int))) = true))
 (h9 : (k < (((List.length keep) : Nat) : Int)))
 (h10 : (InI64 ((((List.length (obD (obE es [(Fd.s (recS (List.getD ns (Int.toNat k) ([] : List (Abs.Fd))) (0 : Nat)))]))) : Nat) : Int) - (obS (obE es [(Fd.s (recS (List.getD ns (Int.toNat k) ([] : List (Abs.Fd))) (0 : Nat)))])))))
 (h11 : (InI64 ((obS (obE es [(Fd.s (recS (List.getD ns (Int.toNat k) ([] : List (Abs.Fd))) (0 : Nat)))])) + (if (free < (if (((((List.length (obD (obE es [(Fd.s (recS (List.getD ns (Int.toNat k) ([] : List (Abs.Fd))) (0 : Nat)))]))) : Nat) : Int) - (obS (obE es [(Fd.s (recS (List.getD ns (Int.toNat k) ([] : List (Abs.Fd))) (0 : Nat)))]))) < (if ((0 : Int) > (List.getD keep (Int.toNat k) (0 : Int))) then (0 : Int) else (List.getD keep (Int.toNat k) (0 : Int)))) then ((((List.length (obD (obE es [(Fd.s (recS (List.getD ns (Int.toNat k) ([] : List (Abs.Fd))) (0 : Nat)))]))) : Nat) : Int) - (obS (obE es [(Fd.s (recS (List.getD ns (Int.toNat k) ([] : List (Abs.Fd))) (0 : Nat)))]))) else (if ((0 : Int) > (List.getD keep (Int.toNat k) (0 : Int))) then (0 : Int) else (List.getD keep (Int.toNat k) (0 : Int))))) then free else (if (((((List.length (obD (obE es [(Fd.s (recS (List.getD ns (Int.toNat k) ([] : List (Abs.Fd))) (0 : Nat)))]))) : Nat) : Int) - (obS (obE es [(Fd.s (recS (List.getD ns (Int.toNat k) ([] : List (Abs.Fd))) (0 : Nat)))]))) < (if ((0 : Int) > (List.getD keep (Int.toNat k) (0 : Int))) then (0 : Int) else (List.getD keep (Int.toNat k) (0 : Int)))) then ((((List.length (obD (obE es [(Fd.s (recS (List.getD ns (Int.toNat k) ([] : List (Abs.Fd))) (0 : Nat)))]))) : Nat) : Int) - (obS (obE es [(Fd.s (recS (List.getD ns (Int.toNat k) ([] : List (Abs.Fd))) (0 : Nat)))]))) else (if ((0 : Int) > (List.getD keep (Int.toNat k) (0 : Int))) then (0 : Int) else (List.getD keep (Int.toNat k) (0 : Int))))))))
 (h12 : ((0 : Int) ≤ ((obS (obE es [(Fd.s (recS (List.getD ns (Int.toNat k) ([] : List (Abs.Fd))) (0 : Nat)))])) + (if (free < (if (((((List.length (obD (obE es [(Fd.s (recS (List.getD ns (Int.toNat k) ([] : List (Abs.Fd))) (0 : Nat)))]))) : Nat) : Int) - (obS (obE es [(Fd.s (recS (List.getD ns (Int.toNat k) ([] : List (Abs.Fd))) (0 : Nat)))]))) < (if ((0 : Int) > (List.getD keep (Int.toNat k) (0 : Int))) then (0 : Int) else (List.getD keep (Int.toNat k) (0 : Int)))) then ((((List.length (obD (obE es [(Fd.s (recS (List.getD ns (Int.toNat k) ([] : List (Abs.Fd))) (0 : Nat)))]))) : Nat) : Int) - (obS (obE es [(Fd.s (recS (List.getD ns (Int.toNat k) ([] : List (Abs.Fd))) (0 : Nat)))]))) else (if ((0 : Int) > (List.getD keep (Int.toNat k) (0 : Int))) then (0 : Int) else (List.getD keep (Int.toNat k) (0 : Int))))) then free else (if (((((List.length (obD (obE es [(Fd.s (recS (List.getD ns (Int.toNat k) ([] : List (Abs.Fd))) (0 : Nat)))]))) : Nat) : Int) - (obS (obE es [(Fd.s (recS (List.getD ns (Int.toNat k) ([] : List (Abs.Fd))) (0 : Nat)))]))) < (if ((0 : Int) > (List.getD keep (Int.toNat k) (0 : Int))) then (0 : Int) else (List.getD keep (Int.toNat k) (0 : Int)))) then ((((List.length (obD (obE es [(Fd.s (recS (List.getD ns (Int.toNat k) ([] : List (Abs.Fd))) (0 : Nat)))]))) : Nat) : Int) - (obS (obE es [(Fd.s (recS (List.getD ns (Int.toNat k) ([] : List (Abs.Fd))) (0 : Nat)))]))) else (if ((0 : Int) > (List.getD keep (Int.toNat k) (0 : Int))) then (0 : Int) else (List.getD keep (Int.toNat k) (0 : Int))))))))
 (h13 : (((obS (obE es [(Fd.s (recS (List.getD ns (Int.toNat k) ([] : List (Abs.Fd))) (0 : Nat)))])) + (if (free < (if (((((List.length (obD (obE es [(Fd.s (recS (List.getD ns (Int.toNat k) ([] : List (Abs.Fd))) (0 : Nat)))]))) : Nat) : Int) - (obS (obE es [(Fd.s (recS (List.getD ns (Int.toNat k) ([] : List (Abs.Fd))) (0 : Nat)))]))) < (if ((0 : Int) > (List.getD keep (Int.toNat k) (0 : Int))) then (0 : Int) else (List.getD keep (Int.toNat k) (0 : Int)))) then ((((List.length (obD (obE es [(Fd.s (recS (List.getD ns (Int.toNat k) ([] : List (Abs.Fd))) (0 : Nat)))]))) : Nat) : Int) - (obS (obE es [(Fd.s (recS (List.getD ns (Int.toNat k) ([] : List (Abs.Fd))) (0 : Nat)))]))) else (if ((0 : Int) > (List.getD keep (Int.toNat k) (0 : Int))) then (0 : Int) else (List.getD keep (Int.toNat k) (0 : Int))))) then free else (if (((((List.length (obD (obE es [(Fd.s (recS (List.getD ns (Int.toNat k) ([] : List (Abs.Fd))) (0 : Nat)))]))) : Nat) : Int) - (obS (obE es [(Fd.s (recS (List.getD ns (Int.toNat k) ([] : List (Abs.Fd))) (0 : Nat)))]))) < (if ((0 : Int) > (List.getD keep (Int.toNat k) (0 : Int))) then (0 : Int) else (List.getD keep (Int.toNat k) (0 : Int)))) then ((((List.length (obD (obE es [(Fd.s (recS (List.getD ns (Int.toNat k) ([] : List (Abs.Fd))) (0 : Nat)))]))) : Nat) : Int) - (obS (obE es [(Fd.s (recS (List.getD ns (Int.toNat k) ([] : List (Abs.Fd))) (0 : Nat)))]))) else (if ((0 : Int) > (List.getD keep (Int.toNat k) (0 : Int))) then (0 : Int) else (List.getD keep (Int.toNat k) (0 : Int)))))) ≤ (((List.length (obD (obE es [(Fd.s (recS (List.getD ns (Int.toNat k) ([] : List (Abs.Fd))) (0 : Nat)))]))) : Nat) : Int)))
 (h14 : (InI64 (free - (if (free < (if (((((List.length (obD (obE es [(Fd.s (recS (List.getD ns (Int.toNat k) ([] : List (Abs.Fd))) (0 : Nat)))]))) : Nat) : Int) - (obS (obE es [(Fd.s (recS (List.getD ns (Int.toNat k) ([] : List (Abs.Fd))) (0 : Nat)))]))) < (if ((0 : Int) > (List.getD keep (Int.toNat k) (0 : Int))) then (0 : Int) else (List.getD keep (Int.toNat k) (0 : Int)))) then ((((List.length (obD (obE es [(Fd.s (recS (List.getD ns (Int.toNat k) ([] : List (Abs.Fd))) (0 : Nat)))]))) : Nat) : Int) - (obS (obE es [(Fd.s (recS (List.getD ns (Int.toNat k) ([] : List (Abs.Fd))) (0 : Nat)))]))) else (if ((0 : Int) > (List.getD keep (Int.toNat k) (0 : Int))) then (0 : Int) else (List.getD keep (Int.toNat k) (0 : Int))))) then free else (if (((((List.length (obD (obE es [(Fd.s (recS (List.getD ns (Int.toNat k) ([] : List (Abs.Fd))) (0 : Nat)))]))) : Nat) : Int) - (obS (obE es [(Fd.s (recS (List.getD ns (Int.toNat k) ([] : List (Abs.Fd))) (0 : Nat)))]))) < (if ((0 : Int) > (List.getD keep (Int.toNat k) (0 : Int))) then (0 : Int) else (List.getD keep (Int.toNat k) (0 : Int)))) then ((((List.length (obD (obE es [(Fd.s (recS (List.getD ns (Int.toNat k) ([] : List (Abs.Fd))) (0 : Nat)))]))) : Nat) : Int) - (obS (obE es [(Fd.s (recS (List.getD ns (Int.toNat k) ([] : List (Abs.Fd))) (0 : Nat)))]))) else (if ((0 : Int) > (List.getD keep (Int.toNat k) (0 : Int))) then (0 : Int) else (List.getD keep (Int.toNat k) (0 : Int))))))))
 (h15 : (InI64 (k + (1 : Int))))
 (h16 : ((free - (if (free < (if (((((List.length (obD (obE es [(Fd.s (recS (List.getD ns (Int.toNat k) ([] : List (Abs.Fd))) (0 : Nat)))]))) : Nat) : Int) - (obS (obE es [(Fd.s (recS (List.getD ns (Int.toNat k) ([] : List (Abs.Fd))) (0 : Nat)))]))) < (if ((0 : Int) > (List.getD keep (Int.toNat k) (0 : Int))) then (0 : Int) else (List.getD keep (Int.toNat k) (0 : Int)))) then ((((List.length (obD (obE es [(Fd.s (recS (List.getD ns (Int.toNat k) ([] : List (Abs.Fd))) (0 : Nat)))]))) : Nat) : Int) - (obS (obE es [(Fd.s (recS (List.getD ns (Int.toNat k) ([] : List (Abs.Fd))) (0 : Nat)))]))) else (if ((0 : Int) > (List.getD keep (Int.toNat k) (0 : Int))) then (0 : Int) else (List.getD keep (Int.toNat k) (0 : Int))))) then free else (if (((((List.length (obD (obE es [(Fd.s (recS (List.getD ns (Int.toNat k) ([] : List (Abs.Fd))) (0 : Nat)))]))) : Nat) : Int) - (obS (obE es [(Fd.s (recS (List.getD ns (Int.toNat k) ([] : List (Abs.Fd))) (0 : Nat)))]))) < (if ((0 : Int) > (List.getD keep (Int.toNat k) (0 : Int))) then (0 : Int) else (List.getD keep (Int.toNat k) (0 : Int)))) then ((((List.length (obD (obE es [(Fd.s (recS (List.getD ns (Int.toNat k) ([] : List (Abs.Fd))) (0 : Nat)))]))) : Nat) : Int) - (obS (obE es [(Fd.s (recS (List.getD ns (Int.toNat k) ([] : List (Abs.Fd))) (0 : Nat)))]))) else (if ((0 : Int) > (List.getD keep (Int.toNat k) (0 : Int))) then (0 : Int) else (List.getD keep (Int.toNat k) (0 : Int)))))) = free'))
 (h17 : ((k + (1 : Int)) = k'))
 (h18 : ((setE es [(Fd.s (recS (List.getD ns (Int.toNat k) ([] : List (Abs.Fd))) (0 : Nat)))] (Ob.node [(Fd.w (List.take (Int.toNat ((obS (obE es [(Fd.s (recS (List.getD ns (Int.toNat k) ([] : List (Abs.Fd))) (0 : Nat)))])) + (if (free < (if (((((List.length (obD (obE es [(Fd.s (recS (List.getD ns (Int.toNat k) ([] : List (Abs.Fd))) (0 : Nat)))]))) : Nat) : Int) - (obS (obE es [(Fd.s (recS (List.getD ns (Int.toNat k) ([] : List (Abs.Fd))) (0 : Nat)))]))) < (if ((0 : Int) > (List.getD keep (Int.toNat k) (0 : Int))) then (0 : Int) else (List.getD keep (Int.toNat k) (0 : Int)))) then ((((List.length (obD (obE es [(Fd.s (recS (List.getD ns (Int.toNat k) ([] : List (Abs.Fd))) (0 : Nat)))]))) : Nat) : Int) - (obS (obE es [(Fd.s (recS (List.getD ns (Int.toNat k) ([] : List (Abs.Fd))) (0 : Nat)))]))) else (if ((0 : Int) > (List.getD keep (Int.toNat k) (0 : Int))) then (0 : Int) else (List.getD keep (Int.toNat k) (0 : Int))))) then free else (if (((((List.length (obD (obE es [(Fd.s (recS (List.getD ns (Int.toNat k) ([] : List (Abs.Fd))) (0 : Nat)))]))) : Nat) : Int) - (obS (obE es [(Fd.s (recS (List.getD ns (Int.toNat k) ([] : List (Abs.Fd))) (0 : Nat)))]))) < (if ((0 : Int) > (List.getD keep (Int.toNat k) (0 : Int))) then (0 : Int) else (List.getD keep (Int.toNat k) (0 : Int)))) then ((((List.length (obD (obE es [(Fd.s (recS (List.getD ns (Int.toNat k) ([] : List (Abs.Fd))) (0 : Nat)))]))) : Nat) : Int) - (obS (obE es [(Fd.s (recS (List.getD ns (Int.toNat k) ([] : List (Abs.Fd))) (0 : Nat)))]))) else (if ((0 : Int) > (List.getD keep (Int.toNat k) (0 : Int))) then (0 : Int) else (List.getD keep (Int.toNat k) (0 : Int))))))) (obD (obE es [(Fd.s (recS (List.getD ns (Int.toNat k) ([] : List (Abs.Fd))) (0 : Nat)))])))), (Fd.i ((obS (obE es [(Fd.s (recS (List.getD ns (Int.toNat k) ([] : List (Abs.Fd))) (0 : Nat)))])) + (if (free < (if (((((List.length (obD (obE es [(Fd.s (recS (List.getD ns (Int.toNat k) ([] : List (Abs.Fd))) (0 : Nat)))]))) : Nat) : Int) - (obS (obE es [(Fd.s (recS (List.getD ns (Int.toNat k) ([] : List (Abs.Fd))) (0 : Nat)))]))) < (if ((0 : Int) > (List.getD keep (Int.toNat k) (0 : Int))) then (0 : Int) else (List.getD keep (Int.toNat k) (0 : Int)))) then ((((List.length (obD (obE es [(Fd.s (recS (List.getD ns (Int.toNat k) ([] : List (Abs.Fd))) (0 : Nat)))]))) : Nat) : Int) - (obS (obE es [(Fd.s (recS (List.getD ns (Int.toNat k) ([] : List (Abs.Fd))) (0 : Nat)))]))) else (if ((0 : Int) > (List.getD keep (Int.toNat k) (0 : Int))) then (0 : Int) else (List.getD keep (Int.toNat k) (0 : Int))))) then free else (if (((((List.length (obD (obE es [(Fd.s (recS (List.getD ns (Int.toNat k) ([] : List (Abs.Fd))) (0 : Nat)))]))) : Nat) : Int) - (obS (obE es [(Fd.s (recS (List.getD ns (Int.toNat k) ([] : List (Abs.Fd))) (0 : Nat)))]))) < (if ((0 : Int) > (List.getD keep (Int.toNat k) (0 : Int))) then (0 : Int) else (List.getD keep (Int.toNat k) (0 : Int)))) then ((((List.length (obD (obE es [(Fd.s (recS (List.getD ns (Int.toNat k) ([] : List (Abs.Fd))) (0 : Nat)))]))) : Nat) : Int) - (obS (obE es [(Fd.s (recS (List.getD ns (Int.toNat k) ([] : List (Abs.Fd))) (0 : Nat)))]))) else (if ((0 : Int) > (List.getD keep (Int.toNat k) (0 : Int))) then (0 : Int) else (List.getD keep (Int.toNat k) (0 : Int)))))))] ([] : List (List (Rec × Ob))))) = es')) :
 ∃ ps, stepPs Try.prog DF gN 100 (bodyN Try.f14 0) 100 (crSn ro st fu dn keep free es ns k).st [.is true, .is true] .normal (crSn ro st fu dn keep free' es' ns k') = some ps ∧ AllQ ps := ⟨_, by kernel_rfl, qc h1 (qc h2 (qc h3 (qc h4 (qc h5 (qc h6 (qc h7 (qc h8 (qc h2 (qc h9 (qc h10 (qc h11 (qc h12 (qc h13 (qc h14 (qc (Eq.refl ((recS (List.getD ns (Int.toNat k) ([] : List (Abs.Fd))) (0 : Nat)))) (qc (Eq.refl (((obS (obE es [(Fd.s (recS (List.getD ns (Int.toNat k) ([] : List (Abs.Fd))) (0 : Nat)))])) + (if (free < (if (((((List.length (obD (obE es [(Fd.s (recS (List.getD ns (Int.toNat k) ([] : List (Abs.Fd))) (0 : Nat)))]))) : Nat) : Int) - (obS (obE es [(Fd.s (recS (List.getD ns (Int.toNat k) ([] : List (Abs.Fd))) (0 : Nat)))]))) < (if ((0 : Int) > (List.getD keep (Int.toNat k) (0 : Int))) then (0 : Int) else (List.getD keep (Int.toNat k) (0 : Int)))) then ((((List.length (obD (obE es [(Fd.s (recS (List.getD ns (Int.toNat k) ([] : List (Abs.Fd))) (0 : Nat)))]))) : Nat) : Int) - (obS (obE es [(Fd.s (recS (List.getD ns (Int.toNat k) ([] : List (Abs.Fd))) (0 : Nat)))]))) else (if ((0 : Int) > (List.getD keep (Int.toNat k) (0 : Int))) then (0 : Int) else (List.getD keep (Int.toNat k) (0 : Int))))) then free else (if (((((List.length (obD (obE es [(Fd.s (recS (List.getD ns (Int.toNat k) ([] : List (Abs.Fd))) (0 : Nat)))]))) : Nat) : Int) - (obS (obE es [(Fd.s (recS (List.getD ns (Int.toNat k) ([] : List (Abs.Fd))) (0 : Nat)))]))) < (if ((0 : Int) > (List.getD keep (Int.toNat k) (0 : Int))) then (0 : Int) else (List.getD keep (Int.toNat k) (0 : Int)))) then ((((List.length (obD (obE es [(Fd.s (recS (List.getD ns (Int.toNat k) ([] : List (Abs.Fd))) (0 : Nat)))]))) : Nat) : Int) - (obS (obE es [(Fd.s (recS (List.getD ns (Int.toNat k) ([] : List (Abs.Fd))) (0 : Nat)))]))) else (if ((0 : Int) > (List.getD keep (Int.toNat k) (0 : Int))) then (0 : Int) else (List.getD keep (Int.toNat k) (0 : Int)))))))) (qc (Eq.refl ro) (qc (Eq.refl st) (qc (Eq.refl fu) (qc (Eq.refl dn) (qc (Eq.refl ((List.take (Int.toNat ((obS (obE es [(Fd.s (recS (List.getD ns (Int.toNat k) ([] : List (Abs.Fd))) (0 : Nat)))])) + (if (free < (if (((((List.length (obD (obE es [(Fd.s (recS (List.getD ns (Int.toNat k) ([] : List (Abs.Fd))) (0 : Nat)))]))) : Nat) : Int) - (obS (obE es [(Fd.s (recS (List.getD ns (Int.toNat k) ([] : List (Abs.Fd))) (0 : Nat)))]))) < (if ((0 : Int) > (List.getD keep (Int.toNat k) (0 : Int))) then (0 : Int) else (List.getD keep (Int.toNat k) (0 : Int)))) then ((((List.length (obD (obE es [(Fd.s (recS (List.getD ns (Int.toNat k) ([] : List (Abs.Fd))) (0 : Nat)))]))) : Nat) : Int) - (obS (obE es [(Fd.s (recS (List.getD ns (Int.toNat k) ([] : List (Abs.Fd))) (0 : Nat)))]))) else (if ((0 : Int) > (List.getD keep (Int.toNat k) (0 : Int))) then (0 : Int) else (List.getD keep (Int.toNat k) (0 : Int))))) then free else (if (((((List.length (obD (obE es [(Fd.s (recS (List.getD ns (Int.toNat k) ([] : List (Abs.Fd))) (0 : Nat)))]))) : Nat) : Int) - (obS (obE es [(Fd.s (recS (List.getD ns (Int.toNat k) ([] : List (Abs.Fd))) (0 : Nat)))]))) < (if ((0 : Int) > (List.getD keep (Int.toNat k) (0 : Int))) then (0 : Int) else (List.getD keep (Int.toNat k) (0 : Int)))) then ((((List.length (obD (obE es [(Fd.s (recS (List.getD ns (Int.toNat k) ([] : List (Abs.Fd))) (0 : Nat)))]))) : Nat) : Int) - (obS (obE es [(Fd.s (recS (List.getD ns (Int.toNat k) ([] : List (Abs.Fd))) (0 : Nat)))]))) else (if ((0 : Int) > (List.getD keep (Int.toNat k) (0 : Int))) then (0 : Int) else (List.getD keep (Int.toNat k) (0 : Int))))))) (obD (obE es [(Fd.s (recS (List.getD ns (Int.toNat k) ([] : List (Abs.Fd))) (0 : Nat)))]))))) (qc (Eq.refl ([(Fd.s (recS (List.getD ns (Int.toNat k) ([] : List (Abs.Fd))) (0 : Nat)))])) (qc (Eq.refl es) (qc (Eq.refl ((obS (obE es [(Fd.s (recS (List.getD ns (Int.toNat k) ([] : List (Abs.Fd))) (0 : Nat)))])))) (qc (Eq.refl ([(Fd.s (recS (List.getD ns (Int.toNat k) ([] : List (Abs.Fd))) (0 : Nat)))])) (qc h15 (qc (Eq.refl keep) (qc h16 (qc (Eq.refl ((((List.length ns) : Nat) : Int))) (qc h17 (qc (Eq.refl ro) (qc (Eq.refl st) (qc (Eq.refl fu) (qc (Eq.refl dn) (qc h18 (qc (Eq.refl ns) (qn)))))))))))))))))))))))))))))))))))))⟩
theorem cr_out (ro st fu free free' : Int) (keep : List Int) (dn : Bool) (es es' : List (Rec × Ob)) (ns : List Rec) (k k' : Int)
 (h1 : ((decide (k < (((List.length ns) : Nat) : Int))) = true))
 (h2 : ((0 : Int) ≤ k))
 (h3 : (k < (((List.length ns) : Nat) : Int)))
 (h4 : ((Int.toNat k) < (List.length ns)))
 (h5 : (KeyT Try.prog (9 : TypeId) false [FK.str]))
 (h6 : ((keyOK [FK.str] [(Fd.s (recS (List.getD ns (Int.toNat k) ([] : List (Abs.Fd))) (0 : Nat)))]) = true))
 (h7 : ((hasE es [(Fd.s (recS (List.getD ns (Int.toNat k) ([] : List (Abs.Fd))) (0 : Nat)))]) = true))
 (h8 : ((decide (k < (((List.length keep) : Nat) : Int))) = false))
 (h9 : (InI64 ((obS (obE es [(Fd.s (recS (List.getD ns (Int.toNat k) ([] : List (Abs.Fd))) (0 : Nat)))])) + (0 : Int))))
 (h10 : ((0 : Int) ≤ ((obS (obE es [(Fd.s (recS (List.getD ns (Int.toNat k) ([] : List (Abs.Fd))) (0 : Nat)))])) + (0 : Int))))
 (h11 : (((obS (obE es [(Fd.s (recS (List.getD ns (Int.toNat k) ([] : List (Abs.Fd))) (0 : Nat)))])) + (0 : Int)) ≤ (((List.length (obD (obE es [(Fd.s (recS (List.getD ns (Int.toNat k) ([] : List (Abs.Fd))) (0 : Nat)))]))) : Nat) : Int)))
 (h12 : (InI64 (free - (0 : Int))))
 (h13 : (InI64 (k + (1 : Int))))
 (h14 : ((free - (0 : Int)) = free'))
 (h15 : ((k + (1 : Int)) = k'))
 (h16 : ((setE es [(Fd.s (recS (List.getD ns (Int.toNat k) ([] : List (Abs.Fd))) (0 : Nat)))] (Ob.node [(Fd.w (List.take (Int.toNat ((obS (obE es [(Fd.s (recS (List.getD ns (Int.toNat k) ([] : List (Abs.Fd))) (0 : Nat)))])) + (0 : Int))) (obD (obE es [(Fd.s (recS (List.getD ns (Int.toNat k) ([] : List (Abs.Fd))) (0 : Nat)))])))), (Fd.i ((obS (obE es [(Fd.s (recS (List.getD ns (Int.toNat k) ([] : List (Abs.Fd))) (0 : Nat)))])) + (0 : Int)))] ([] : List (List (Rec × Ob))))) = es')) :
 ∃ ps, stepPs Try.prog DF gN 100 (bodyN Try.f14 0) 100 (crSn ro st fu dn keep free es ns k).st [.is true, .is false] .normal (crSn ro st fu dn keep free' es' ns k') = some ps ∧ AllQ ps := ⟨_, by kernel_rfl, qc h1 (qc h2 (qc h3 (qc h4 (qc h5 (qc h6 (qc h7 (qc h8 (qc h9 (qc h10 (qc h11 (qc h12 (qc (Eq.refl ((recS (List.getD ns (Int.toNat k) ([] : List (Abs.Fd))) (0 : Nat)))) (qc (Eq.refl (((obS (obE es [(Fd.s (recS (List.getD ns (Int.toNat k) ([] : List (Abs.Fd))) (0 : Nat)))])) + (0 : Int)))) (qc (Eq.refl ro) (qc (Eq.refl st) (qc (Eq.refl fu) (qc (Eq.refl dn) (qc (Eq.refl ((List.take (Int.toNat ((obS (obE es [(Fd.s (recS (List.getD ns (Int.toNat k) ([] : List (Abs.Fd))) (0 : Nat)))])) + (0 : Int))) (obD (obE es [(Fd.s (recS (List.getD ns (Int.toNat k) ([] : List (Abs.Fd))) (0 : Nat)))]))))) (qc (Eq.refl ([(Fd.s (recS (List.getD ns (Int.toNat k) ([] : List (Abs.Fd))) (0 : Nat)))])) (qc (Eq.refl es) (qc (Eq.refl ((obS (obE es [(Fd.s (recS (List.getD ns (Int.toNat k) ([] : List (Abs.Fd))) (0 : Nat)))])))) (qc (Eq.refl ([(Fd.s (recS (List.getD ns (Int.toNat k) ([] : List (Abs.Fd))) (0 : Nat)))])) (qc h13 (qc (Eq.refl keep) (qc h14 (qc (Eq.refl ((((List.length ns) : Nat) : Int))) (qc h15 (qc (Eq.refl ro) (qc (Eq.refl st) (qc (Eq.refl fu) (qc (Eq.refl dn) (qc h16 (qc (Eq.refl ns) (qn))))))))))))))))))))))))))))))))))⟩
theorem cr_exit (ro st fu free : Int) (keep : List Int) (dn : Bool) (es : List (Rec × Ob)) (ns : List Rec) (k : Int)
 (h1 : ((decide (k < (((List.length ns) : Nat) : Int))) = false)) :
 ∃ ps, stepPs Try.prog DF gN 100 (bodyN Try.f14 0) 100 (crSn ro st fu dn keep free es ns k).st [.is false] (.exit 0) (crEnd ro st fu dn es) = some ps ∧ AllQ ps := ⟨_, by kernel_rfl, qc h1 (qc (Eq.refl ro) (qc (Eq.refl st) (qc (Eq.refl fu) (qc (Eq.refl dn) (qc (Eq.refl es) (qn))))))⟩
theorem cr_run (ro st fu free : Int) (keep : List Int) (dn : Bool) (es es' : List (Rec × Ob)) (ns : List Rec)
 (h1 : (FreeOK (Option.none) es ro))
 (h2 : (Short es))
 (h3 : SumOK Try.prog DF (bodyN Try.f14 0) (loopL DF (crSn ro st fu dn keep free es ns (0 : Nat)) (.exit 0) (crEnd ro st fu dn es')))
 (h4 : ((ro - (safeSum (Option.none) es)) = free))
 (h5 : ((((List.length (sortK es)) : Nat) : Int) = (((List.length ns) : Nat) : Int)))
 (h6 : ((sortK es) = ns)) :
 ∃ ps, runO Try.prog DF gN 100 Try.f14 (dkB ro st fu dn es, [.one (.ref 0 0), .one (.words .i64 keep)]) [.loop (loopL DF (crSn ro st fu dn keep free es ns (0 : Nat)) (.exit 0) (crEnd ro st fu dn es'))] (.tup []) (dkB ro st 0 false es') = some ps ∧ AllQ ps := ⟨_, by kernel_rfl, qc h1 (qc h2 (qc h3 (qc (Eq.refl keep) (qc h4 (qc h5 (qc (show ((0 : Int) = (((0 : Nat) : Nat) : Int)) from by decide) (qc (Eq.refl ro) (qc (Eq.refl st) (qc (Eq.refl fu) (qc (Eq.refl dn) (qc (Eq.refl es) (qc h6 (qc (Eq.refl ro) (qc (Eq.refl st) (qc (Eq.refl ((0 : Int))) (qc (Eq.refl false) (qc (Eq.refl (es')) (qn))))))))))))))))))⟩
noncomputable def neQ := mkF DF Try.f8.ntmps (fun bs xs => match bs, xs with | [], [.one (.int .i64 _ n)] => some n | _, _ => none) (fun n => ([], [.one (.int .i64 false n)]))
  (fun n => some (.v (.one (.ref 0 0)), dkB (if (4194304 < (if (0 > n) then 0 else n)) then 4194304 else (if (0 > n) then 0 else n)) 0 0 false [], []))
theorem ne_ok : OpOK Try.prog DF 8 neQ := by
  refine opOK_mk gam_nil mixed Try.func8 (enters_of Try.func8 (by kernel_rfl) rfl) ?_
  intro n r' bs' ps h hps
  simp only [Option.some.injEq, Prod.mk.injEq] at h
  obtain ⟨rfl, rfl, rfl⟩ := h
  exact ⟨_, _, ne_run n _ rfl⟩
noncomputable def gM : Gam DF := [(lookId, .fn (lookD DF [(33, 0)])), (8, .op [false] neQ), (36, .fn rightF), (35, .fn clD), (17, .rd [true] freeR)]
noncomputable def gM1 : Gam DF := [(8, .op [false] neQ), (36, .fn rightF), (35, .fn clD), (17, .rd [true] freeR)]
def moSn (ll : List Rec) (ro : Int) (es : List (Rec × Ob)) (k : Int) : Sn DF.τ where
  slots := [(6, .v (.one (.ref 0 0))), (16, .v (.one (.prs fSh ll))), (17, .v (.one (.int .i64 false ll.length))), (18, .v (.one (.int .i64 false k)))]
  boxes := enumB 0 (dkB ro 0 0 false es)
  nt := 67
def moEnd (ro : Int) (es : List (Rec × Ob)) : Sn DF.τ where
  slots := [(6, .v (.one (.ref 0 0)))]
  boxes := enumB 0 (dkB ro 0 0 false es)
  nt := 67
def moBad (e : Int) : Sn DF.τ where
  slots := [(4, .v (.one .nilp)), (5, .v (.one (.int .i64 false e)))]
  boxes := []
  nt := 67
theorem mo_step (ll : List Rec) (ro : Int) (es es' : List (Rec × Ob)) (k k' : Int)
 (h1 : ((decide (k < (((List.length ll) : Nat) : Int))) = true))
 (h2 : ((0 : Int) ≤ k))
 (h3 : (k < (((List.length ll) : Nat) : Int)))
 (h4 : ((rightB (recS (List.getD ll (Int.toNat k) ([] : List (Abs.Fd))) (0 : Nat))) = true))
 (h5 : ((ByteArray.size (recS (List.getD ll (Int.toNat k) ([] : List (Abs.Fd))) (0 : Nat))) ≤ (9223372036854775807 : Nat)))
 (h6 : (KeyT Try.prog (9 : TypeId) false [FK.str]))
 (h7 : ((keyOK [FK.str] [(Fd.s (recS (List.getD ll (Int.toNat k) ([] : List (Abs.Fd))) (0 : Nat)))]) = true))
 (h8 : ((hasE es [(Fd.s (recS (List.getD ll (Int.toNat k) ([] : List (Abs.Fd))) (0 : Nat)))]) = false))
 (h9 : ((decide ((recI (List.getD ll (Int.toNat k) ([] : List (Abs.Fd))) (((0 : Nat) + (1 : Nat)) + (1 : Nat))) < (0 : Int))) = false))
 (h10 : ((decide ((recI (List.getD ll (Int.toNat k) ([] : List (Abs.Fd))) (((0 : Nat) + (1 : Nat)) + (1 : Nat))) > (((List.length (recW (List.getD ll (Int.toNat k) ([] : List (Abs.Fd))) ((0 : Nat) + (1 : Nat)))) : Nat) : Int))) = false))
 (h11 : ((List.length (recW (List.getD ll (Int.toNat k) ([] : List (Abs.Fd))) ((0 : Nat) + (1 : Nat)))) ≤ (140737488355328 : Nat)))
 (h12 : (InI64 (k + (1 : Int))))
 (h13 : ((recI (List.getD ll (Int.toNat k) ([] : List (Abs.Fd))) (((0 : Nat) + (1 : Nat)) + (1 : Nat))) = (obS (Ob.node [(Fd.w (recW (List.getD ll (Int.toNat k) ([] : List (Abs.Fd))) ((0 : Nat) + (1 : Nat)))), (Fd.i (recI (List.getD ll (Int.toNat k) ([] : List (Abs.Fd))) (((0 : Nat) + (1 : Nat)) + (1 : Nat))))] ([] : List (List (Rec × Ob)))))))
 (h14 : ((recW (List.getD ll (Int.toNat k) ([] : List (Abs.Fd))) ((0 : Nat) + (1 : Nat))) = (obD (Ob.node [(Fd.w (recW (List.getD ll (Int.toNat k) ([] : List (Abs.Fd))) ((0 : Nat) + (1 : Nat)))), (Fd.i (recI (List.getD ll (Int.toNat k) ([] : List (Abs.Fd))) (((0 : Nat) + (1 : Nat)) + (1 : Nat))))] ([] : List (List (Rec × Ob)))))))
 (h15 : ((k + (1 : Int)) = k'))
 (h16 : ((setE (setE es [(Fd.s (recS (List.getD ll (Int.toNat k) ([] : List (Abs.Fd))) (0 : Nat)))] (Ob.node [(Fd.w (recW (List.getD ll (Int.toNat k) ([] : List (Abs.Fd))) ((0 : Nat) + (1 : Nat)))), (Fd.i (recI (List.getD ll (Int.toNat k) ([] : List (Abs.Fd))) (((0 : Nat) + (1 : Nat)) + (1 : Nat))))] ([] : List (List (Rec × Ob))))) [(Fd.s (recS (List.getD ll (Int.toNat k) ([] : List (Abs.Fd))) (0 : Nat)))] (Ob.node [(Fd.w (recW (List.getD ll (Int.toNat k) ([] : List (Abs.Fd))) ((0 : Nat) + (1 : Nat)))), (Fd.i (recI (List.getD ll (Int.toNat k) ([] : List (Abs.Fd))) (((0 : Nat) + (1 : Nat)) + (1 : Nat))))] ([] : List (List (Rec × Ob))))) = es')) :
 ∃ ps, stepPs Try.prog DF gM 100 (bodyN Try.f22 0) 100 (moSn ll ro es k).st [.is true, .is true, .is false, .is false] .normal (moSn ll ro es' k') = some ps ∧ AllQ ps := ⟨_, by kernel_rfl, qc h1 (qc h2 (qc h3 (qc h4 (qc h5 (qc h6 (qc h7 (qc h8 (qc h9 (qc h10 (qc h11 (qc h6 (qc h7 (qc h12 (qc h13 (qc h14 (qc (Eq.refl ll) (qc (Eq.refl ((((List.length ll) : Nat) : Int))) (qc h15 (qc (Eq.refl ro) (qc (Eq.refl ((0 : Int))) (qc (Eq.refl ((0 : Int))) (qc (Eq.refl false) (qc h16 (qn))))))))))))))))))))))))⟩
theorem mo_name (ll : List Rec) (ro e : Int) (es : List (Rec × Ob)) (k : Int)
 (h1 : ((decide (k < (((List.length ll) : Nat) : Int))) = true))
 (h2 : ((0 : Int) ≤ k))
 (h3 : (k < (((List.length ll) : Nat) : Int)))
 (h4 : ((rightB (recS (List.getD ll (Int.toNat k) ([] : List (Abs.Fd))) (0 : Nat))) = false))
 (h5 : ((ByteArray.size (recS (List.getD ll (Int.toNat k) ([] : List (Abs.Fd))) (0 : Nat))) ≤ (9223372036854775807 : Nat)))
 (h6 : ((40 : Int) = e)) :
 ∃ ps, stepPs Try.prog DF gM 100 (bodyN Try.f22 0) 100 (moSn ll ro es k).st [.is true, .is false] .ret (moBad e) = some ps ∧ AllQ ps := ⟨_, by kernel_rfl, qc h1 (qc h2 (qc h3 (qc h4 (qc h5 (qc h6 (qn))))))⟩
theorem mo_there (ll : List Rec) (ro e : Int) (es : List (Rec × Ob)) (k : Int)
 (h1 : ((decide (k < (((List.length ll) : Nat) : Int))) = true))
 (h2 : ((0 : Int) ≤ k))
 (h3 : (k < (((List.length ll) : Nat) : Int)))
 (h4 : ((rightB (recS (List.getD ll (Int.toNat k) ([] : List (Abs.Fd))) (0 : Nat))) = true))
 (h5 : ((ByteArray.size (recS (List.getD ll (Int.toNat k) ([] : List (Abs.Fd))) (0 : Nat))) ≤ (9223372036854775807 : Nat)))
 (h6 : (KeyT Try.prog (9 : TypeId) false [FK.str]))
 (h7 : ((keyOK [FK.str] [(Fd.s (recS (List.getD ll (Int.toNat k) ([] : List (Abs.Fd))) (0 : Nat)))]) = true))
 (h8 : ((hasE es [(Fd.s (recS (List.getD ll (Int.toNat k) ([] : List (Abs.Fd))) (0 : Nat)))]) = true))
 (h9 : ((1 : Int) = e)) :
 ∃ ps, stepPs Try.prog DF gM1 100 (bodyN Try.f22 0) 100 (moSn ll ro es k).st [.is true, .is true] .ret (moBad e) = some ps ∧ AllQ ps := ⟨_, by kernel_rfl, qc h1 (qc h2 (qc h3 (qc h4 (qc h5 (qc h6 (qc h7 (qc h8 (qc h9 (qn)))))))))⟩
theorem mo_neg (ll : List Rec) (ro e : Int) (es : List (Rec × Ob)) (k : Int)
 (h1 : ((decide (k < (((List.length ll) : Nat) : Int))) = true))
 (h2 : ((0 : Int) ≤ k))
 (h3 : (k < (((List.length ll) : Nat) : Int)))
 (h4 : ((rightB (recS (List.getD ll (Int.toNat k) ([] : List (Abs.Fd))) (0 : Nat))) = true))
 (h5 : ((ByteArray.size (recS (List.getD ll (Int.toNat k) ([] : List (Abs.Fd))) (0 : Nat))) ≤ (9223372036854775807 : Nat)))
 (h6 : (KeyT Try.prog (9 : TypeId) false [FK.str]))
 (h7 : ((keyOK [FK.str] [(Fd.s (recS (List.getD ll (Int.toNat k) ([] : List (Abs.Fd))) (0 : Nat)))]) = true))
 (h8 : ((hasE es [(Fd.s (recS (List.getD ll (Int.toNat k) ([] : List (Abs.Fd))) (0 : Nat)))]) = false))
 (h9 : ((decide ((recI (List.getD ll (Int.toNat k) ([] : List (Abs.Fd))) (((0 : Nat) + (1 : Nat)) + (1 : Nat))) < (0 : Int))) = true))
 (h10 : ((1 : Int) = e)) :
 ∃ ps, stepPs Try.prog DF gM 100 (bodyN Try.f22 0) 100 (moSn ll ro es k).st [.is true, .is true, .is true] .ret (moBad e) = some ps ∧ AllQ ps := ⟨_, by kernel_rfl, qc h1 (qc h2 (qc h3 (qc h4 (qc h5 (qc h6 (qc h7 (qc h8 (qc h9 (qc h10 (qn))))))))))⟩
theorem mo_more (ll : List Rec) (ro e : Int) (es : List (Rec × Ob)) (k : Int)
 (h1 : ((decide (k < (((List.length ll) : Nat) : Int))) = true))
 (h2 : ((0 : Int) ≤ k))
 (h3 : (k < (((List.length ll) : Nat) : Int)))
 (h4 : ((rightB (recS (List.getD ll (Int.toNat k) ([] : List (Abs.Fd))) (0 : Nat))) = true))
 (h5 : ((ByteArray.size (recS (List.getD ll (Int.toNat k) ([] : List (Abs.Fd))) (0 : Nat))) ≤ (9223372036854775807 : Nat)))
 (h6 : (KeyT Try.prog (9 : TypeId) false [FK.str]))
 (h7 : ((keyOK [FK.str] [(Fd.s (recS (List.getD ll (Int.toNat k) ([] : List (Abs.Fd))) (0 : Nat)))]) = true))
 (h8 : ((hasE es [(Fd.s (recS (List.getD ll (Int.toNat k) ([] : List (Abs.Fd))) (0 : Nat)))]) = false))
 (h9 : ((decide ((recI (List.getD ll (Int.toNat k) ([] : List (Abs.Fd))) (((0 : Nat) + (1 : Nat)) + (1 : Nat))) < (0 : Int))) = false))
 (h10 : ((decide ((recI (List.getD ll (Int.toNat k) ([] : List (Abs.Fd))) (((0 : Nat) + (1 : Nat)) + (1 : Nat))) > (((List.length (recW (List.getD ll (Int.toNat k) ([] : List (Abs.Fd))) ((0 : Nat) + (1 : Nat)))) : Nat) : Int))) = true))
 (h11 : ((1 : Int) = e)) :
 ∃ ps, stepPs Try.prog DF gM 100 (bodyN Try.f22 0) 100 (moSn ll ro es k).st [.is true, .is true, .is false, .is true] .ret (moBad e) = some ps ∧ AllQ ps := ⟨_, by kernel_rfl, qc h1 (qc h2 (qc h3 (qc h4 (qc h5 (qc h6 (qc h7 (qc h8 (qc h9 (qc h10 (qc h11 (qn)))))))))))⟩
theorem mo_exit (ll : List Rec) (ro : Int) (es : List (Rec × Ob)) (k : Int)
 (h1 : ((decide (k < (((List.length ll) : Nat) : Int))) = false)) :
 ∃ ps, stepPs Try.prog DF gM 100 (bodyN Try.f22 0) 100 (moSn ll ro es k).st [.is false] (.exit 0) (moEnd ro es) = some ps ∧ AllQ ps := ⟨_, by kernel_rfl, qc h1 (qc (Eq.refl ro) (qc (Eq.refl ((0 : Int))) (qc (Eq.refl ((0 : Int))) (qc (Eq.refl false) (qc (Eq.refl es) (qn))))))⟩
theorem mo_many (n e : Int) (ll : List Rec)
 (h1 : ((decide ((((List.length ll) : Nat) : Int) > (32 : Int))) = true))
 (h2 : ((43 : Int) = e)) :
 ∃ ps, runO Try.prog DF gM 100 Try.f22 ([], [.one (.int .i64 false n), .one (.prs fSh ll)]) [.is true] (.tup [.one .nilp, .one (.int .i64 false e)]) [] = some ps ∧ AllQ ps := ⟨_, by kernel_rfl, qc h1 (qc h2 (qn))⟩
theorem mo_bad (n e ro : Int) (ll : List Rec)
 (h1 : ((decide ((((List.length ll) : Nat) : Int) > (32 : Int))) = false))
 (h2 : SumOK Try.prog DF (bodyN Try.f22 0) (loopL DF (moSn ll ro [] (0 : Nat)) .ret (moBad e)))
 (h3 : ((if ((4194304 : Int) < (if ((0 : Int) > n) then (0 : Int) else n)) then (4194304 : Int) else (if ((0 : Int) > n) then (0 : Int) else n)) = ro)) :
 ∃ ps, runO Try.prog DF gM 100 Try.f22 ([], [.one (.int .i64 false n), .one (.prs fSh ll)]) [.is false, .loop (loopL DF (moSn ll ro [] (0 : Nat)) .ret (moBad e))] (.tup [.one .nilp, .one (.int .i64 false e)]) [] = some ps ∧ AllQ ps := ⟨_, by kernel_rfl, qc h1 (qc (Eq.refl n) (qc h2 (qc (Eq.refl ll) (qc (Eq.refl ((((List.length ll) : Nat) : Int))) (qc (show ((0 : Int) = (((0 : Nat) : Nat) : Int)) from by decide) (qc h3 (qc (Eq.refl ((0 : Int))) (qc (Eq.refl ((0 : Int))) (qc (Eq.refl false) (qc (Eq.refl (([] : List (Rec × Ob)))) (qc (Eq.refl e) (qn))))))))))))⟩
theorem mo_full (n e ro : Int) (ll : List Rec) (es : List (Rec × Ob))
 (h1 : ((decide ((((List.length ll) : Nat) : Int) > (32 : Int))) = false))
 (h2 : SumOK Try.prog DF (bodyN Try.f22 0) (loopL DF (moSn ll ro [] (0 : Nat)) (.exit 0) (moEnd ro es)))
 (h3 : ((if ((4194304 : Int) < (if ((0 : Int) > n) then (0 : Int) else n)) then (4194304 : Int) else (if ((0 : Int) > n) then (0 : Int) else n)) = ro))
 (h4 : (FreeOK (Option.none) es ro))
 (h5 : ((decide ((ro - (safeSum (Option.none) es)) < (0 : Int))) = true))
 (h6 : ((42 : Int) = e)) :
 ∃ ps, runO Try.prog DF gM 100 Try.f22 ([], [.one (.int .i64 false n), .one (.prs fSh ll)]) [.is false, .loop (loopL DF (moSn ll ro [] (0 : Nat)) (.exit 0) (moEnd ro es)), .is true] (.tup [.one .nilp, .one (.int .i64 false e)]) [] = some ps ∧ AllQ ps := ⟨_, by kernel_rfl, qc h1 (qc (Eq.refl n) (qc h2 (qc (Eq.refl ll) (qc (Eq.refl ((((List.length ll) : Nat) : Int))) (qc (show ((0 : Int) = (((0 : Nat) : Nat) : Int)) from by decide) (qc h3 (qc (Eq.refl ((0 : Int))) (qc (Eq.refl ((0 : Int))) (qc (Eq.refl false) (qc (Eq.refl (([] : List (Rec × Ob)))) (qc h4 (qc h5 (qc h6 (qn))))))))))))))⟩
theorem mo_ok (n ro : Int) (ll : List Rec) (es : List (Rec × Ob))
 (h1 : ((decide ((((List.length ll) : Nat) : Int) > (32 : Int))) = false))
 (h2 : SumOK Try.prog DF (bodyN Try.f22 0) (loopL DF (moSn ll ro [] (0 : Nat)) (.exit 0) (moEnd ro es)))
 (h3 : ((if ((4194304 : Int) < (if ((0 : Int) > n) then (0 : Int) else n)) then (4194304 : Int) else (if ((0 : Int) > n) then (0 : Int) else n)) = ro))
 (h4 : (FreeOK (Option.none) es ro))
 (h5 : ((decide ((ro - (safeSum (Option.none) es)) < (0 : Int))) = false)) :
 ∃ ps, runO Try.prog DF gM 100 Try.f22 ([], [.one (.int .i64 false n), .one (.prs fSh ll)]) [.is false, .loop (loopL DF (moSn ll ro [] (0 : Nat)) (.exit 0) (moEnd ro es)), .is false] (.tup [.one (.ref 0 0), .one (.int .i64 true 0)]) (dkB ro 0 0 false es) = some ps ∧ AllQ ps := ⟨_, by kernel_rfl, qc h1 (qc (Eq.refl n) (qc h2 (qc (Eq.refl ll) (qc (Eq.refl ((((List.length ll) : Nat) : Int))) (qc (show ((0 : Int) = (((0 : Nat) : Nat) : Int)) from by decide) (qc h3 (qc (Eq.refl ((0 : Int))) (qc (Eq.refl ((0 : Int))) (qc (Eq.refl false) (qc (Eq.refl (([] : List (Rec × Ob)))) (qc h4 (qc h5 (qc (Eq.refl ro) (qc (Eq.refl ((0 : Int))) (qc (Eq.refl ((0 : Int))) (qc (Eq.refl false) (qc (Eq.refl es) (qn))))))))))))))))))⟩
end Go.Num
namespace Go.Num
open Go.Abs Go.Proofs Go.Shelf Go.RowKit
def dkRdE : List (BoxSt DF.τ) → Option DkT
  | [.fixed t ps, .fam k es none] => match ps with
    | [.int .i64 false ro, .mapr 1, .int .i64 false st, .int .i64 false fu, .bool false dn] => bif Nat.beq t 66 && Nat.beq k 0 then some (ro, st, fu, dn, es) else none
    | _ => none
  | _ => none
theorem dkRdE_is {bs : List (BoxSt DF.τ)} {d : DkT} (h : dkRdE bs = some d) : dkBt d = bs := by
  unfold dkRdE at h
  split at h
  · rename_i t ps k es
    split at h
    · rename_i ro st fu dn
      cases hb : (Nat.beq t 66 && Nat.beq k 0) <;> simp only [hb, cond_true, cond_false] at h
      · cases h
      · obtain ⟨rfl, rfl⟩ := beq_and hb
        cases h
        rfl
    · cases h
  · cases h
theorem sortK_len (es : List (Rec × Ob)) : (sortK es).length = es.length := by
  unfold sortK keyL
  rw [List.length_map, List.length_mergeSort, List.length_map]
theorem ba_back (s : ByteArray) : (⟨s.data.toList.toArray⟩ : ByteArray) = s := by
  cases s
  rfl
theorem sortK_mem {es : List (Rec × Ob)} (hk : ∀ e ∈ es, ∃ s, e.1 = [Fd.s s]) {r : Rec} : r ∈ sortK es ↔ r ∈ es.map (·.1) := by
  unfold sortK keyL
  rw [List.mem_map]
  constructor
  · rintro ⟨l, hl, rfl⟩
    have hl' := (List.mergeSort_perm _ leB).mem_iff.1 hl
    obtain ⟨e, he, rfl⟩ := List.mem_map.1 hl'
    obtain ⟨s, hs⟩ := hk e he
    refine List.mem_map.2 ⟨e, he, ?_⟩
    rw [hs]
    show [Fd.s s] = [Fd.s ⟨s.data.toList.toArray⟩]
    rw [ba_back]
  · intro h
    obtain ⟨e, he, rfl⟩ := List.mem_map.1 h
    obtain ⟨s, hs⟩ := hk e he
    refine ⟨s.data.toList, (List.mergeSort_perm _ leB).mem_iff.2 (List.mem_map.2 ⟨e, he, by rw [hs]; rfl⟩), ?_⟩
    rw [hs, ba_back]
theorem hasE_iff {es : List (Rec × Ob)} {k : Rec} : hasE es k = true ↔ k ∈ es.map (·.1) := by
  constructor
  · intro h
    exact List.mem_map.2 ⟨_, hasE_mem h, rfl⟩
  · intro h
    induction es with
    | nil => cases h
    | cons e es ih =>
      obtain ⟨x, o⟩ := e
      by_cases hx : x = k
      · simp [hasE, getE, hx]
      · have : k ∈ es.map (·.1) := by
          rcases List.mem_cons.1 h with h | h
          · exact (hx h.symm).elim
          · exact h
        simpa [hasE, getE, hx] using ih this
theorem setE_keys {es : List (Rec × Ob)} {k : Rec} {o : Ob} (h : hasE es k = true) : (setE es k o).map (·.1) = es.map (·.1) := by
  induction es with
  | nil => cases h
  | cons e es ih =>
    obtain ⟨x, p⟩ := e
    by_cases hx : x = k
    · simp [setE, hx]
    · have h1 : hasE es k = true := by simpa [hasE, getE, hx] using h
      simp [setE, hx, ih h1]
theorem setE_keysN {es : List (Rec × Ob)} {k : Rec} {o : Ob} (h : hasE es k = false) : setE es k o = es ++ [(k, o)] := by
  induction es with
  | nil => rfl
  | cons e es ih =>
    obtain ⟨x, p⟩ := e
    by_cases hx : x = k
    · simp [hasE, getE, hx] at h
    · have h1 : hasE es k = false := by simpa [hasE, getE, hx] using h
      simp [setE, hx, ih h1]
theorem setE_mem {es : List (Rec × Ob)} {k : Rec} {o : Ob} {e : Rec × Ob} (h : e ∈ setE es k o) : e = (k, o) ∨ e ∈ es := by
  induction es with
  | nil => simpa [setE] using h
  | cons f es ih =>
    obtain ⟨x, p⟩ := f
    by_cases hx : x = k
    · rw [setE, if_pos hx] at h
      rcases List.mem_cons.1 h with h | h
      · exact Or.inl (by rw [h, hx])
      · exact Or.inr (List.mem_cons_of_mem _ h)
    · rw [setE, if_neg hx] at h
      rcases List.mem_cons.1 h with h | h
      · exact Or.inr (by rw [h]; exact List.mem_cons_self ..)
      · rcases ih h with h | h
        · exact Or.inl h
        · exact Or.inr (List.mem_cons_of_mem _ h)
theorem Okd.keys1 {d : DkT} (h : Okd d) : ∀ e ∈ d.2.2.2.2, ∃ s, e.1 = [Fd.s s] := fun e he => by
  obtain ⟨s, hs, _⟩ := h.keys e he
  exact ⟨s, hs⟩
theorem Okd.short {d : DkT} (h : Okd d) : Short d.2.2.2.2 := by
  refine ⟨by have := h.len; omega, fun e he => ?_⟩
  obtain ⟨s, hs, hr⟩ := h.keys e he
  rw [hs]
  show s.size ≤ _
  have := rightB_size hr
  omega
theorem sortK_at {es : List (Rec × Ob)} (hk : ∀ e ∈ es, ∃ s, e.1 = [Fd.s s]) {k : Nat} (hlt : k < es.length) : ∃ s, (sortK es).getD k [] = [Fd.s s] ∧ hasE es [Fd.s s] = true := by
  have hl : k < (sortK es).length := by rw [sortK_len]; exact hlt
  have hm : (sortK es).getD k [] ∈ sortK es := by
    rw [List.getD_eq_getElem?_getD, List.getElem?_eq_getElem hl]
    exact List.getElem_mem hl
  have h2 := (sortK_mem hk).1 hm
  obtain ⟨e, he, hee⟩ := List.mem_map.1 h2
  obtain ⟨s, hs⟩ := hk e he
  refine ⟨s, by rw [← hee, hs], ?_⟩
  rw [hasE_iff, ← hs, hee]
  exact h2
def readM (d : DkT) (s : ByteArray) : Int × List Int := if d.err s ≠ 0 then (d.err s, []) else (0, fD d s)
def reRd (bs : List (BoxSt DF.τ)) : List (A0 DF.τ) → Option (DkT × ByteArray)
  | [.one (.ref 0 0), .one (.str s)] => match dkRdE bs with
    | some d => some (d, s)
    | none => none
  | _ => none
theorem reRd_is {bs : List (BoxSt DF.τ)} {xs : List (A0 DF.τ)} {t : DkT × ByteArray} (h : reRd bs xs = some t) : (fiPre t).1 = bs := by
  unfold reRd at h
  split at h
  · split at h
    · rename_i d hd
      cases h
      exact dkRdE_is hd
    · cases h
  · cases h
noncomputable def readR := mkF DF Try.f15.ntmps reRd fiPre (fun t => some (rdV (readM t.1 t.2).1, [dynB (readM t.1 t.2).2], [Okd t.1, t.2.size ≤ 9223372036854775807]))
theorem read_ok : OpOK Try.prog DF 15 (withNew readR) := by
  refine opOK_mkR mixed Try.func15 (enters_of Try.func15 (by kernel_rfl) rfl) (fun _ _ _ => reRd_is) ?_
  rintro ⟨⟨ro, st, fu, dn, es⟩, s⟩ r' ns ps h hps
  simp only [Option.some.injEq, Prod.mk.injEq] at h
  obtain ⟨rfl, rfl, rfl⟩ := h
  have hd : Okd (ro, st, fu, dn, es) := hps (Okd _) (by simp)
  have hs : s.size ≤ 9223372036854775807 := hps (s.size ≤ 9223372036854775807) (by simp)
  by_cases c0 : errF dn es s = 0
  · obtain ⟨e1, e2, e3⟩ := errF_ok c0
    have hm : readM (ro, st, fu, dn, es) s = (0, fD (ro, st, fu, dn, es) s) := by
      unfold readM
      exact if_neg (by simp [c0])
    rw [hm]
    exact ⟨_, _, _, gam_op findOk_ok (gam_cons clone_ok gam_nil), re_ok s ro st fu _ dn es _ _ c0 hs (hd.ob [Fd.s s]).2.2 rfl rfl rfl (hd.back e3) rfl⟩
  · have hm : readM (ro, st, fu, dn, es) s = (errF dn es s, []) := by
      unfold readM
      exact if_pos c0
    rw [hm]
    exact ⟨_, _, _, gam_op findBad_ok gam_nil, re_bad s ro st fu _ dn es _ c0 hs (bne_iff_ne.2 c0) rfl rfl⟩
def fuRd (bs : List (BoxSt DF.τ)) : List (A0 DF.τ) → Option (DkT × Int)
  | [.one (.ref 0 0), .one (.int .i64 _ n)] => match dkRd bs with
    | some d => some (d, n)
    | none => none
  | _ => none
def mxF (a : Int) : Int := if 0 > a then 0 else a
def fuseM (d : DkT) (n : Int) : DkT := (d.1, d.2.1, mxF n, d.2.2.2.1, d.2.2.2.2)
noncomputable def fuseQ := mkF DF Try.f13.ntmps fuRd (fun t => (dkBt t.1, [.one (.ref 0 0), .one (.int .i64 false t.2)])) (fun t => some (.tup [], dkBt (fuseM t.1 t.2), []))
theorem fuse_ok : OpOK Try.prog DF 13 fuseQ := by
  refine opOK_mk gam_nil mixed Try.func13 (enters_of Try.func13 (by kernel_rfl) rfl) ?_
  rintro ⟨⟨ro, st, fu, dn, es⟩, n⟩ r' bs' ps h hps
  simp only [Option.some.injEq, Prod.mk.injEq] at h
  obtain ⟨rfl, rfl, rfl⟩ := h
  exact ⟨_, _, fu_run n ro st fu _ dn es rfl⟩
def spRdE (bs : List (BoxSt DF.τ)) : List (A0 DF.τ) → Option DkT
  | [.one (.ref 0 0)] => dkRdE bs
  | _ => none
theorem spRdE_is {bs : List (BoxSt DF.τ)} {xs : List (A0 DF.τ)} {d : DkT} (h : spRdE bs xs = some d) : dkBt d = bs := by
  unfold spRdE at h
  split at h
  · exact dkRdE_is h
  · cases h
noncomputable def stepsR := mkF DF Try.f23.ntmps spRdE (fun d => (dkBt d, [.one (.ref 0 0)])) (fun d => some (eV d.2.1, [], []))
theorem steps_ok : OpOK Try.prog DF 23 (withNew stepsR) := by
  refine opOK_mkR mixed Try.func23 (enters_of Try.func23 (by kernel_rfl) rfl) (fun _ _ _ => spRdE_is) ?_
  rintro ⟨ro, st, fu, dn, es⟩ r' ns ps h hps
  simp only [Option.some.injEq, Prod.mk.injEq] at h
  obtain ⟨rfl, rfl, rfl⟩ := h
  exact ⟨_, _, _, gam_nil, ss_run ro st fu dn es⟩
noncomputable def downR := mkF DF Try.f24.ntmps spRdE (fun d => (dkBt d, [.one (.ref 0 0)])) (fun d => some (.v (.one (.bool false d.2.2.2.1)), [], []))
theorem down_ok : OpOK Try.prog DF 24 (withNew downR) := by
  refine opOK_mkR mixed Try.func24 (enters_of Try.func24 (by kernel_rfl) rfl) (fun _ _ _ => spRdE_is) ?_
  rintro ⟨ro, st, fu, dn, es⟩ r' ns ps h hps
  simp only [Option.some.injEq, Prod.mk.injEq] at h
  obtain ⟨rfl, rfl, rfl⟩ := h
  exact ⟨_, _, _, gam_nil, dw_run ro st fu dn es⟩
theorem gN_ok : GamOK Try.prog DF gN := gam_op names_ok (gam_fz clone_ok (gam_rd freeR_ok (gam_op keep_ok gam_nil)))
def listM (d : DkT) : List Rec := if d.2.2.2.1 = true then [] else sortK d.2.2.2.2
noncomputable def listR := mkF DF Try.f25.ntmps spRdE (fun d => (dkBt d, [.one (.ref 0 0)])) (fun d => some (.v (.one (.own 2)), [nmB (listM d)], [Okd d]))
theorem list_ok : OpOK Try.prog DF 25 (withNew listR) := by
  refine opOK_mkR mixed Try.func25 (enters_of Try.func25 (by kernel_rfl) rfl) (fun _ _ _ => spRdE_is) ?_
  rintro ⟨ro, st, fu, dn, es⟩ r' ns ps h hps
  simp only [Option.some.injEq, Prod.mk.injEq] at h
  obtain ⟨rfl, rfl, rfl⟩ := h
  have hd : Okd (ro, st, fu, dn, es) := hps (Okd _) (by simp)
  cases dn
  · exact ⟨_, _, _, gN_ok, li_run ro st fu false es _ rfl hd.short rfl⟩
  · exact ⟨_, _, _, gN_ok, li_down ro st fu true es _ rfl rfl⟩
def fileR (es : List (Rec × Ob)) (r : Rec) : Rec := [.s (recS r 0), .w (obD (obE es [.s (recS r 0)])), .i (obS (obE es [.s (recS r 0)]))]
def imageM (es : List (Rec × Ob)) : List Rec := (sortK es).map (fileR es)
theorem im_loop {ro st fu : Int} {dn : Bool} {es : List (Rec × Ob)} (hd : Okd (ro, st, fu, dn, es)) :
    SumOK Try.prog DF (bodyN Try.f18 0) (loopL DF (imSn ro st fu dn es (sortK es) [] (0 : Nat)) (.exit 0) (imEnd ro st fu dn es (imageM es))) := by
  have hlen := sortK_len es
  have h32 := hd.len
  simp only at h32
  have := sum_loop gN_ok mixed (c := bodyN Try.f18 0) (fun k => imSn ro st fu dn es (sortK es) ((imageM es).take k) k) (sortK es).length (e := .exit 0) (s := imEnd ro st fu dn es (imageM es)) rfl (fun k hk => ?_) ?_
  · exact this
  · obtain ⟨s, hs1, hs2⟩ := sortK_at hd.keys1 (k := k) (by simp only; omega)
    have hs2' : hasE es [Fd.s s] = true := hs2
    have hs1' : (sortK es).getD (Int.toNat (k : Int)) [] = [Fd.s s] := hs1
    have hb := hd.back hs2
    have ho := hd.ob [Fd.s s]
    simp only at hb ho
    have hr : recS ((sortK es).getD (Int.toNat (k : Int)) []) 0 = s := by rw [hs1']; rfl
    have htk : (imageM es).take (k + 1) = (imageM es).take k ++ [fileR es [Fd.s s]] := by
      have hg : (imageM es)[k]? = some (fileR es [Fd.s s]) := by
        unfold imageM
        rw [List.getElem?_map, List.getElem?_eq_getElem hk]
        have : (sortK es)[k] = [Fd.s s] := by
          rw [← hs1, List.getD_eq_getElem?_getD, List.getElem?_eq_getElem hk]
          rfl
        rw [this]
        rfl
      rw [List.take_add_one, hg]
      rfl
    refine ⟨_, _, _, im_step ro st fu dn es (sortK es) _ _ k _ (decide_eq_true (by omega)) (by omega) (by omega) (by simpa using hk) keyT_str rfl (by rw [hr]; exact hs2') (by rw [hr]; exact ho.2.2) ?_ ?_ ⟨by omega, by omega⟩ rfl rfl rfl (by rw [hr]; exact hb) (by rw [hr, htk]; rfl)⟩
    · have : ((imageM es).take k).length ≤ 32 := by rw [List.length_take]; unfold imageM; rw [List.length_map]; omega
      omega
    · have : ((imageM es).take k).length ≤ 32 := by rw [List.length_take]; unfold imageM; rw [List.length_map]; omega
      omega
  · have : (imageM es).take (sortK es).length = imageM es := List.take_of_length_le (by unfold imageM; rw [List.length_map]; exact Nat.le_refl _)
    rw [this]
    exact ⟨_, _, _, im_exit ro st fu dn es (sortK es) (imageM es) _ (decide_eq_false (by omega))⟩
noncomputable def imageR := mkF DF Try.f18.ntmps spRdE (fun d => (dkBt d, [.one (.ref 0 0)])) (fun d => some (.v (.one (.own 2)), [imB (imageM d.2.2.2.2)], [Okd d]))
theorem image_ok : OpOK Try.prog DF 18 (withNew imageR) := by
  refine opOK_mkR mixed Try.func18 (enters_of Try.func18 (by kernel_rfl) rfl) (fun _ _ _ => spRdE_is) ?_
  rintro ⟨ro, st, fu, dn, es⟩ r' ns ps h hps
  simp only [Option.some.injEq, Prod.mk.injEq] at h
  obtain ⟨rfl, rfl, rfl⟩ := h
  have hd : Okd (ro, st, fu, dn, es) := hps (Okd _) (by simp)
  exact ⟨_, _, _, gN_ok, im_run ro st fu dn es (sortK es) _ hd.short (im_loop hd) rfl rfl⟩
end Go.Num
namespace Go.Num
open Go.Abs Go.Proofs Go.Shelf Go.RowKit
theorem safeSum_cons (x : Rec) (o : Ob) (es : List (Rec × Ob)) : safeSum none ((x, o) :: es) = obS o + safeSum none es := by
  unfold safeSum
  rw [List.map_cons, List.sum_cons]
  rfl
theorem safeSum_set {es : List (Rec × Ob)} {k : Rec} {o : Ob} (h : hasE es k = true) : safeSum none (setE es k o) = safeSum none es - obS (obE es k) + obS o := by
  induction es with
  | nil => cases h
  | cons e es ih =>
    obtain ⟨x, p⟩ := e
    by_cases hx : x = k
    · subst hx
      rw [setE, if_pos rfl, safeSum_cons, safeSum_cons]
      have : obE ((x, p) :: es) x = p := by simp [obE, getE]
      rw [this]
      omega
    · have h1 : hasE es k = true := by simpa [hasE, getE, hx] using h
      have h2 : obE ((x, p) :: es) k = obE es k := by simp [obE, getE, hx]
      rw [setE, if_neg hx, safeSum_cons, safeSum_cons, ih h1, h2]
      omega
theorem safeSum_new {es : List (Rec × Ob)} {k : Rec} {o : Ob} (h : hasE es k = false) : safeSum none (setE es k o) = safeSum none es + obS o := by
  rw [setE_keysN h]
  unfold safeSum
  rw [List.map_append, List.sum_append]
  show _ + (obS o + 0) = _
  omega
theorem safeSum_put {es : List (Rec × Ob)} {k : Rec} {o : Ob} : safeSum none (setE es k o) = safeSum none es - obS (obE es k) + obS o := by
  cases h : hasE es k
  · rw [safeSum_new h, obE_none h]
    show _ = _ - 0 + _
    omega
  · exact safeSum_set h
theorem delE_mem {es : List (Rec × Ob)} {k : Rec} {e : Rec × Ob} (h : e ∈ delE es k) : e ∈ es := by
  induction es with
  | nil => cases h
  | cons f es ih =>
    obtain ⟨x, p⟩ := f
    by_cases hx : x = k
    · rw [delE, if_pos hx] at h
      exact List.mem_cons_of_mem _ h
    · rw [delE, if_neg hx] at h
      rcases List.mem_cons.1 h with h | h
      · rw [h]; exact List.mem_cons_self ..
      · exact List.mem_cons_of_mem _ (ih h)
theorem delE_nodup {es : List (Rec × Ob)} {k : Rec} (h : (es.map (·.1)).Nodup) : ((delE es k).map (·.1)).Nodup := by
  induction es with
  | nil => exact h
  | cons f es ih =>
    obtain ⟨x, p⟩ := f
    simp only [List.map_cons, List.nodup_cons] at h
    by_cases hx : x = k
    · rw [delE, if_pos hx]
      exact h.2
    · rw [delE, if_neg hx]
      simp only [List.map_cons, List.nodup_cons]
      refine ⟨fun hm => h.1 ?_, ih h.2⟩
      obtain ⟨e, he, hee⟩ := List.mem_map.1 hm
      exact List.mem_map.2 ⟨e, delE_mem he, hee⟩
theorem delE_len {es : List (Rec × Ob)} {k : Rec} (h : hasE es k = true) : (delE es k).length + 1 = es.length := by
  induction es with
  | nil => cases h
  | cons f es ih =>
    obtain ⟨x, p⟩ := f
    by_cases hx : x = k
    · rw [delE, if_pos hx]; rfl
    · have h1 : hasE es k = true := by simpa [hasE, getE, hx] using h
      rw [delE, if_neg hx, List.length_cons, List.length_cons, ih h1]
theorem safeSum_del {es : List (Rec × Ob)} {k : Rec} (h : hasE es k = true) : safeSum none (delE es k) = safeSum none es - obS (obE es k) := by
  induction es with
  | nil => cases h
  | cons e es ih =>
    obtain ⟨x, p⟩ := e
    by_cases hx : x = k
    · subst hx
      rw [delE, if_pos rfl, safeSum_cons]
      have : obE ((x, p) :: es) x = p := by simp [obE, getE]
      rw [this]
      omega
    · have h1 : hasE es k = true := by simpa [hasE, getE, hx] using h
      have h2 : obE ((x, p) :: es) k = obE es k := by simp [obE, getE, hx]
      rw [delE, if_neg hx, safeSum_cons, safeSum_cons, ih h1, h2]
      omega
theorem hasE_del {es : List (Rec × Ob)} {k j : Rec} (hn : (es.map (·.1)).Nodup) : hasE (delE es k) j = (hasE es j && !decide (j = k)) := by
  induction es with
  | nil => simp [delE, hasE, getE]
  | cons e es ih =>
    obtain ⟨x, p⟩ := e
    simp only [List.map_cons, List.nodup_cons] at hn
    by_cases hx : x = k
    · subst hx
      rw [delE, if_pos rfl]
      by_cases hj : j = x
      · subst hj
        have : hasE es j = false := by
          cases h : hasE es j
          · rfl
          · exact (hn.1 (hasE_iff.1 h)).elim
        simp [this]
      · have : hasE ((x, p) :: es) j = hasE es j := by simp [hasE, getE, Ne.symm hj]
        simp [this, hj]
    · rw [delE, if_neg hx]
      by_cases hj : j = x
      · subst hj
        simp [hasE, getE, hx]
      · have h1 : hasE ((x, p) :: es) j = hasE es j := by simp [hasE, getE, Ne.symm hj]
        have h2 : hasE ((x, p) :: delE es k) j = hasE (delE es k) j := by simp [hasE, getE, Ne.symm hj]
        rw [h1, h2, ih hn.2]
theorem hasE_set {es : List (Rec × Ob)} {k j : Rec} {o : Ob} : hasE (setE es k o) j = (decide (j = k) || hasE es j) := by
  induction es with
  | nil =>
    by_cases hj : j = k
    · simp [setE, hasE, getE, hj]
    · simp [setE, hasE, getE, hj, Ne.symm hj]
  | cons e es ih =>
    obtain ⟨x, p⟩ := e
    by_cases hx : x = k
    · subst hx
      rw [setE, if_pos rfl]
      by_cases hj : j = x
      · simp [hasE, getE, hj]
      · simp [hasE, getE, hj, Ne.symm hj]
    · rw [setE, if_neg hx]
      by_cases hj : j = x
      · simp [hasE, getE, hj]
      · have h1 : hasE ((x, p) :: es) j = hasE es j := by simp [hasE, getE, Ne.symm hj]
        have h2 : hasE ((x, p) :: setE es k o) j = hasE (setE es k o) j := by simp [hasE, getE, Ne.symm hj]
        rw [h1, h2, ih]
theorem obE_set {es : List (Rec × Ob)} {k j : Rec} {o : Ob} : obE (setE es k o) j = if j = k then o else obE es j := by
  induction es with
  | nil =>
    by_cases hj : j = k
    · simp [setE, obE, getE, hj]
    · simp [setE, obE, getE, hj, Ne.symm hj]
  | cons e es ih =>
    obtain ⟨x, p⟩ := e
    by_cases hx : x = k
    · subst hx
      rw [setE, if_pos rfl]
      by_cases hj : j = x
      · simp [obE, getE, hj]
      · simp [obE, getE, hj, Ne.symm hj]
    · rw [setE, if_neg hx]
      by_cases hj : j = x
      · subst hj
        simp [obE, getE, hx]
      · have h1 : obE ((x, p) :: es) j = obE es j := by simp [obE, getE, Ne.symm hj]
        have h2 : obE ((x, p) :: setE es k o) j = obE (setE es k o) j := by simp [obE, getE, Ne.symm hj]
        rw [h1, h2, ih]
theorem obE_del {es : List (Rec × Ob)} {k j : Rec} (hj : j ≠ k) : obE (delE es k) j = obE es j := by
  induction es with
  | nil => rfl
  | cons e es ih =>
    obtain ⟨x, p⟩ := e
    by_cases hx : x = k
    · subst hx
      rw [delE, if_pos rfl]
      simp [obE, getE, Ne.symm hj]
    · rw [delE, if_neg hx]
      by_cases hjx : j = x
      · simp [obE, getE, hjx]
      · have h1 : obE ((x, p) :: es) j = obE es j := by simp [obE, getE, Ne.symm hjx]
        have h2 : obE ((x, p) :: delE es k) j = obE (delE es k) j := by simp [obE, getE, Ne.symm hjx]
        rw [h1, h2, ih]
structure Esd (ro : Int) (es : List (Rec × Ob)) : Prop where
  keys : ∀ e ∈ es, ∃ s, e.1 = [Fd.s s] ∧ rightB s = true
  nodup : (es.map (·.1)).Nodup
  obs : ∀ e ∈ es, ObOK e.2
  len : es.length ≤ 32
  free : safeSum none es ≤ ro
theorem Okd.esd {d : DkT} (h : Okd d) : Esd d.1 d.2.2.2.2 := ⟨h.keys, h.nodup, h.obs, h.len, h.free⟩
theorem Esd.okd {ro : Int} {es : List (Rec × Ob)} (h : Esd ro es) {st fu : Int} {dn : Bool} (hr : 0 ≤ ro ∧ ro ≤ 4194304) (hs : 0 ≤ st) (hf : 0 ≤ fu ∧ fu ≤ 9223372036854775807) : Okd (ro, st, fu, dn, es) :=
  ⟨h.keys, h.nodup, h.obs, h.len, hr, h.free, hs, hf⟩
theorem Esd.set {ro : Int} {es : List (Rec × Ob)} (h : Esd ro es) {s : ByteArray} {o : Ob} (hs : rightB s = true) (ho : ObOK o) (hl : hasE es [Fd.s s] = true ∨ es.length < 32) (hf : safeSum none es - obS (obE es [Fd.s s]) + obS o ≤ ro) : Esd ro (setE es [Fd.s s] o) := by
  refine ⟨fun e he => ?_, ?_, fun e he => ?_, ?_, by rw [safeSum_put]; exact hf⟩
  · rcases setE_mem he with rfl | he
    · exact ⟨s, rfl, hs⟩
    · exact h.keys e he
  · cases hh : hasE es [Fd.s s]
    · rw [setE_keysN hh, List.map_append, List.nodup_append]
      refine ⟨h.nodup, by simp, fun a ha b hb => ?_⟩
      simp only [List.map_cons, List.map_nil, List.mem_singleton] at hb
      subst hb
      intro e
      subst e
      rw [hasE_iff.2 ha] at hh
      cases hh
    · rw [setE_keys hh]
      exact h.nodup
  · rcases setE_mem he with rfl | he
    · exact ho
    · exact h.obs e he
  · cases hh : hasE es [Fd.s s]
    · rw [setE_keysN hh, List.length_append]
      have : es.length < 32 := by rcases hl with hl | hl; rw [hh] at hl; cases hl; exact hl
      simp
      omega
    · have : (setE es [Fd.s s] o).length = es.length := by
        have := congrArg List.length (setE_keys (o := o) hh)
        simpa using this
      rw [this]
      exact h.len
theorem Esd.ob {ro : Int} {es : List (Rec × Ob)} (h : Esd ro es) (k : Rec) : 0 ≤ obS (obE es k) ∧ obS (obE es k) ≤ ((obD (obE es k)).length : Int) ∧ (obD (obE es k)).length ≤ 140737488355328 := by
  cases hk : hasE es k
  · rw [obE_none hk]
    exact ⟨by decide, by decide, by decide⟩
  · obtain ⟨l, n, e, h1, h2, h3⟩ := h.obs _ (hasE_mem hk)
    simp only at e
    rw [e]
    exact ⟨h1, h2, h3⟩
theorem Esd.del {ro : Int} {es : List (Rec × Ob)} (h : Esd ro es) {k : Rec} (hk : hasE es k = true) : Esd ro (delE es k) ∧ (delE es k).length < 32 ∧ safeSum none (delE es k) = safeSum none es - obS (obE es k) := by
  have h1 := safeSum_del hk
  have h2 := delE_len hk
  have h3 := h.len
  have h4 := h.free
  have h5 := (h.ob k).1
  exact ⟨⟨fun e he => h.keys e (delE_mem he), delE_nodup h.nodup, fun e he => h.obs e (delE_mem he), by omega, by omega⟩, by omega, h1⟩
theorem stp_ok {d : DkT} (h : Okd d) {es : List (Rec × Ob)} (he : Esd d.1 es) : Okd (stp d es) ∧ (stp d es).2.1 ≤ d.2.1 + 1 ∧ (stp d es).1 = d.1 := by
  obtain ⟨ro, st, fu, dn, es0⟩ := d
  have h1 := h.steps
  have h2 := h.fuse
  simp only at h1 h2
  refine ⟨he.okd h.room ?_ ?_, ?_, rfl⟩
  · show 0 ≤ stSt fu st
    unfold stSt
    split <;> omega
  · show 0 ≤ stFu fu ∧ stFu fu ≤ _
    unfold stFu
    split
    · omega
    · split <;> omega
  · show stSt fu st ≤ st + 1
    unfold stSt
    split <;> omega
def Nxt (d d' : DkT) : Prop := Okd d' ∧ d'.2.1 ≤ d.2.1 + 1 ∧ d'.1 = d.1
theorem nxt_same {d : DkT} (h : Okd d) : Nxt d d := ⟨h, by omega, rfl⟩
theorem append_nxt {d : DkT} (h : Okd d) (s : ByteArray) (b : List Int) : Nxt d (appendM d s b).2 := by
  unfold appendM
  split
  · exact nxt_same h
  · rename_i c0
    split
    · exact nxt_same h
    · rename_i c1
      split
      · exact nxt_same h
      · rename_i c2
        have ho := h.ob [Fd.s s]
        have hf := h.free
        refine stp_ok h (h.esd.set ?_ ⟨_, _, rfl, ho.1, ?_, ?_⟩ ?_ ?_)
        · by_cases c : d.err s = 0
          · exact (errF_ok c).2.1
          · exact (errF_41 (Classical.not_not.1 (fun hh => c0 ⟨c, hh⟩))).2.1
        · rw [List.length_append]
          show obS (obE d.2.2.2.2 [Fd.s s]) ≤ (((obD (obE d.2.2.2.2 [Fd.s s])).length + b.length : Nat) : Int)
          omega
        · rw [List.length_append]
          omega
        · by_cases c : d.err s = 0
          · exact Or.inl (errF_ok c).2.2
          · have c' : d.err s = 41 := Classical.not_not.1 (fun hh => c0 ⟨c, hh⟩)
            right
            have : ¬ 32 ≤ d.es.length := fun hh => c1 ⟨c', hh⟩
            show d.2.2.2.2.length < 32
            exact Nat.lt_of_not_le this
        · show safeSum none d.2.2.2.2 - obS (obE d.2.2.2.2 [Fd.s s]) + obS (obE d.2.2.2.2 [Fd.s s]) ≤ d.1
          omega
theorem sync_nxt {d : DkT} (h : Okd d) (s : ByteArray) : Nxt d (syncM d s).2 := by
  unfold syncM
  split
  · exact nxt_same h
  · rename_i c0
    split
    · exact nxt_same h
    · rename_i c1
      split
      · have ho := h.ob [Fd.s s]
        obtain ⟨e1, e2, e3⟩ := errF_ok (Classical.not_not.1 c0)
        refine stp_ok h (h.esd.set e2 ⟨_, _, rfl, by omega, Int.le_refl _, ho.2.2⟩ (Or.inl e3) ?_)
        show safeSum none d.2.2.2.2 - obS (obE d.2.2.2.2 [Fd.s s]) + ((obD (obE d.2.2.2.2 [Fd.s s])).length : Int) ≤ d.1
        have : ¬ (d.1 - safeSum none d.2.2.2.2 < ((obD (obE d.2.2.2.2 [Fd.s s])).length : Int) - obS (obE d.2.2.2.2 [Fd.s s])) := c1
        omega
      · exact stp_ok h h.esd
theorem cut_nxt {d : DkT} (h : Okd d) (s : ByteArray) (n : Int) : Nxt d (cutM d s n).2 := by
  unfold cutM
  split
  · exact nxt_same h
  · rename_i c0
    split
    · exact nxt_same h
    · rename_i c1
      have c1' : 0 ≤ n ∧ n ≤ ((obD (obE d.2.2.2.2 [Fd.s s])).length : Int) := by
        have a : ¬ n < 0 := fun hh => c1 (Or.inl hh)
        have b : ¬ ((obD (obE d.2.2.2.2 [Fd.s s])).length : Int) < n := fun hh => c1 (Or.inr hh)
        omega
      split
      · have ho := h.ob [Fd.s s]
        have hf := h.free
        obtain ⟨e1, e2, e3⟩ := errF_ok (Classical.not_not.1 c0)
        have hl : (((obD (obE d.2.2.2.2 [Fd.s s])).take n.toNat).length : Int) = n := by rw [List.length_take]; omega
        refine stp_ok h (h.esd.set e2 ⟨_, _, rfl, ?_, ?_, ?_⟩ (Or.inl e3) ?_)
        · show 0 ≤ if n < obS (obE d.2.2.2.2 [Fd.s s]) then n else obS (obE d.2.2.2.2 [Fd.s s])
          split <;> omega
        · show (if n < obS (obE d.2.2.2.2 [Fd.s s]) then n else obS (obE d.2.2.2.2 [Fd.s s])) ≤ (((obD (obE d.2.2.2.2 [Fd.s s])).take n.toNat).length : Int)
          rw [hl]
          split <;> omega
        · show ((obD (obE d.2.2.2.2 [Fd.s s])).take n.toNat).length ≤ _
          omega
        · show safeSum none d.2.2.2.2 - obS (obE d.2.2.2.2 [Fd.s s]) + (if n < obS (obE d.2.2.2.2 [Fd.s s]) then n else obS (obE d.2.2.2.2 [Fd.s s])) ≤ d.1
          split <;> omega
      · exact stp_ok h h.esd
theorem move_nxt {d : DkT} (h : Okd d) (s t : ByteArray) : Nxt d (moveM d s t).2 := by
  unfold moveM
  split
  · exact nxt_same h
  · rename_i c0
    split
    · exact nxt_same h
    · rename_i c1
      split
      · have ho := h.ob [Fd.s s]
        have hf := h.free
        obtain ⟨e1, e2, e3⟩ := errF_ok (Classical.not_not.1 c0)
        obtain ⟨q1, q2, q3⟩ := h.esd.del e3
        refine stp_ok h (q1.set (by simpa using c1) ⟨_, _, rfl, ho.1, ho.2.1, ho.2.2⟩ (Or.inr q2) ?_)
        have := (q1.ob [Fd.s t]).1
        have q3' : safeSum none (delE d.2.2.2.2 [Fd.s s]) = safeSum none d.2.2.2.2 - obS (obE d.2.2.2.2 [Fd.s s]) := q3
        show safeSum none (delE d.2.2.2.2 [Fd.s s]) - obS (obE (delE d.2.2.2.2 [Fd.s s]) [Fd.s t]) + obS (obE d.2.2.2.2 [Fd.s s]) ≤ d.1
        have this' : 0 ≤ obS (obE (delE d.2.2.2.2 [Fd.s s]) [Fd.s t]) := this
        omega
      · exact stp_ok h h.esd
theorem drop_nxt {d : DkT} (h : Okd d) (s : ByteArray) : Nxt d (dropM d s).2 := by
  unfold dropM
  split
  · exact nxt_same h
  · rename_i c0
    split
    · obtain ⟨e1, e2, e3⟩ := errF_ok (Classical.not_not.1 c0)
      exact stp_ok h (h.esd.del e3).1
    · exact stp_ok h h.esd
theorem fuse_nxt {d : DkT} (h : Okd d) {n : Int} (hn : n ≤ 9223372036854775807) : Nxt d (fuseM d n) := by
  refine ⟨⟨h.keys, h.nodup, h.obs, h.len, h.room, h.free, h.steps, ?_⟩, by show d.2.1 ≤ d.2.1 + 1; omega, rfl⟩
  show 0 ≤ mxF n ∧ mxF n ≤ _
  unfold mxF
  split <;> omega
def mn3 (m n o : Int) : Int := if o < (if n < m then n else m) then o else (if n < m then n else m)
def crN (keep : List Int) (k : Nat) (l : List Int) (s free : Int) : Int := if k < keep.length then mn3 (mxF (keep.getD k 0)) ((l.length : Int) - s) free else 0
def crStep (keep : List Int) (ns : List Rec) (k : Nat) (x : Int × List (Rec × Ob)) : Int × List (Rec × Ob) :=
  (x.1 - crN keep k (obD (obE x.2 [.s (recS (ns.getD k []) 0)])) (obS (obE x.2 [.s (recS (ns.getD k []) 0)])) x.1,
   setE x.2 [.s (recS (ns.getD k []) 0)] (fileOb ((obD (obE x.2 [.s (recS (ns.getD k []) 0)])).take (obS (obE x.2 [.s (recS (ns.getD k []) 0)]) + crN keep k (obD (obE x.2 [.s (recS (ns.getD k []) 0)])) (obS (obE x.2 [.s (recS (ns.getD k []) 0)])) x.1).toNat)
     (obS (obE x.2 [.s (recS (ns.getD k []) 0)]) + crN keep k (obD (obE x.2 [.s (recS (ns.getD k []) 0)])) (obS (obE x.2 [.s (recS (ns.getD k []) 0)])) x.1)))
def crGo (keep : List Int) (ns : List Rec) : Nat → Int × List (Rec × Ob) → Int × List (Rec × Ob)
  | 0, x => x
  | k + 1, x => crStep keep ns k (crGo keep ns k x)
def crashM (d : DkT) (keep : List Int) : DkT := (d.1, d.2.1, 0, false, (crGo keep (sortK d.2.2.2.2) (sortK d.2.2.2.2).length (d.1 - safeSum none d.2.2.2.2, d.2.2.2.2)).2)
theorem crN_le {keep : List Int} {k : Nat} {l : List Int} {s free : Int} (h1 : s ≤ (l.length : Int)) (h2 : 0 ≤ free) : 0 ≤ crN keep k l s free ∧ crN keep k l s free ≤ (l.length : Int) - s ∧ crN keep k l s free ≤ free := by
  unfold crN mn3 mxF
  split
  · split <;> split <;> split <;> (try split) <;> omega
  · omega
structure CrI (ro : Int) (es0 : List (Rec × Ob)) (x : Int × List (Rec × Ob)) : Prop where
  esd : Esd ro x.2
  free : x.1 = ro - safeSum none x.2
  keys : x.2.map (·.1) = es0.map (·.1)
theorem cr_inv {ro : Int} {es0 : List (Rec × Ob)} {x : Int × List (Rec × Ob)} (h : CrI ro es0 x) (keep : List Int) {k : Nat} (hk : k < (sortK es0).length) : CrI ro es0 (crStep keep (sortK es0) k x) ∧ ∃ s, recS ((sortK es0).getD k []) 0 = s ∧ hasE x.2 [Fd.s s] = true := by
  have hk0 : ∀ e ∈ es0, ∃ s, e.1 = [Fd.s s] := by
    intro e he
    have : e.1 ∈ x.2.map (·.1) := by rw [h.keys]; exact List.mem_map.2 ⟨e, he, rfl⟩
    obtain ⟨f, hf, hfe⟩ := List.mem_map.1 this
    obtain ⟨s, hs, _⟩ := h.esd.keys f hf
    exact ⟨s, by rw [← hfe, hs]⟩
  obtain ⟨s, hs1, hs2⟩ := sortK_at hk0 (k := k) (by rw [← sortK_len]; exact hk)
  have hs3 : recS ((sortK es0).getD k []) 0 = s := by rw [hs1]; rfl
  have hs4 : hasE x.2 [Fd.s s] = true := by
    rw [hasE_iff, h.keys]
    exact hasE_iff.1 hs2
  refine ⟨?_, s, hs3, hs4⟩
  obtain ⟨e, he1, he2⟩ : ∃ e ∈ x.2, e.1 = [Fd.s s] := List.mem_map.1 (hasE_iff.1 hs4)
  obtain ⟨s', hs', hr⟩ := h.esd.keys e he1
  have hss : s' = s := by
    rw [he2] at hs'
    cases hs'
    rfl
  subst hss
  have ho := h.esd.ob [Fd.s s']
  have hf := h.esd.free
  have hx := h.free
  unfold crStep
  rw [hs3]
  obtain ⟨n1, n2, n3⟩ := crN_le (keep := keep) (k := k) (l := obD (obE x.2 [Fd.s s'])) (s := obS (obE x.2 [Fd.s s'])) (free := x.1) ho.2.1 (by omega)
  generalize crN keep k (obD (obE x.2 [Fd.s s'])) (obS (obE x.2 [Fd.s s'])) x.1 = n at n1 n2 n3 ⊢
  have hl : (((obD (obE x.2 [Fd.s s'])).take (obS (obE x.2 [Fd.s s']) + n).toNat).length : Int) = obS (obE x.2 [Fd.s s']) + n := by rw [List.length_take]; omega
  refine ⟨h.esd.set hr ⟨_, _, rfl, by omega, by rw [hl]; exact Int.le_refl _, by omega⟩ (Or.inl hs4) ?_, ?_, by rw [setE_keys hs4]; exact h.keys⟩
  · show safeSum none x.2 - obS (obE x.2 [Fd.s s']) + (obS (obE x.2 [Fd.s s']) + n) ≤ ro
    omega
  · show x.1 - n = ro - safeSum none (setE x.2 [Fd.s s'] _)
    rw [safeSum_put]
    show x.1 - n = ro - (safeSum none x.2 - obS (obE x.2 [Fd.s s']) + (obS (obE x.2 [Fd.s s']) + n))
    omega
theorem crGo_inv {ro : Int} {es0 : List (Rec × Ob)} (h : Esd ro es0) (keep : List Int) : ∀ (k : Nat), k ≤ (sortK es0).length → CrI ro es0 (crGo keep (sortK es0) k (ro - safeSum none es0, es0))
  | 0, _ => ⟨h, rfl, rfl⟩
  | k + 1, hk => (cr_inv (crGo_inv h keep k (by omega)) keep (by omega)).1
theorem crash_ok0 {d : DkT} (h : Okd d) (keep : List Int) : Okd (crashM d keep) := by
  have := crGo_inv h.esd keep (sortK d.2.2.2.2).length (Nat.le_refl _)
  exact this.esd.okd h.room h.steps ⟨by decide, by decide⟩
theorem crash_nxt {d : DkT} (h : Okd d) (keep : List Int) : Nxt d (crashM d keep) := ⟨crash_ok0 h keep, by show d.2.1 ≤ d.2.1 + 1; omega, rfl⟩
theorem cr_loop {ro st fu : Int} {dn : Bool} {es : List (Rec × Ob)} (hd : Okd (ro, st, fu, dn, es)) (keep : List Int) :
    SumOK Try.prog DF (bodyN Try.f14 0) (loopL DF (crSn ro st fu dn keep (ro - safeSum none es) es (sortK es) (0 : Nat)) (.exit 0) (crEnd ro st fu dn (crGo keep (sortK es) (sortK es).length (ro - safeSum none es, es)).2)) := by
  have hlen := sortK_len es
  have h32 := hd.len
  have hro := hd.room
  simp only at h32 hro
  refine sum_loop gN_ok mixed (c := bodyN Try.f14 0) (fun k => crSn ro st fu dn keep (crGo keep (sortK es) k (ro - safeSum none es, es)).1 (crGo keep (sortK es) k (ro - safeSum none es, es)).2 (sortK es) k) (sortK es).length (e := .exit 0)
    (s := crEnd ro st fu dn (crGo keep (sortK es) (sortK es).length (ro - safeSum none es, es)).2) rfl (fun k hk => ?_) ⟨_, _, _, cr_exit ro st fu _ keep dn _ (sortK es) _ (decide_eq_false (by omega))⟩
  have hI := crGo_inv hd.esd keep k (by show k ≤ (sortK es).length; omega)
  obtain ⟨_, s, hs1, hs2⟩ := cr_inv hI keep hk
  show ∃ fuel nid ds ps, stepPs _ _ _ _ _ _ _ _ _ (crSn ro st fu dn keep (crStep keep (sortK es) k (crGo keep (sortK es) k (ro - safeSum none es, es))).1 (crStep keep (sortK es) k (crGo keep (sortK es) k (ro - safeSum none es, es))).2 (sortK es) _) = some ps ∧ AllQ ps
  generalize crGo keep (sortK es) k (ro - safeSum none es, es) = x at hI hs2 ⊢
  obtain ⟨free, es1⟩ := x
  have hs1' : recS ((sortK es).getD (Int.toNat (k : Int)) []) 0 = s := hs1
  have ho := hI.esd.ob [Fd.s s]
  have hf := hI.esd.free
  have hx := hI.free
  simp only at ho hf hx hs2
  have hsp : 0 ≤ safeSum none es1 := by
    have hp : ∀ e ∈ es1, 0 ≤ obS e.2 := by
      intro e he
      obtain ⟨l, n, h1, h2, _⟩ := hI.esd.obs e he
      rw [h1]; exact h2
    clear hI ho hf hx hs2
    induction es1 with
    | nil => exact Int.le_refl _
    | cons e es1 ih =>
      obtain ⟨a, b⟩ := e
      rw [safeSum_cons]
      have := hp (a, b) (List.mem_cons_self ..)
      have := ih (fun e he => hp e (List.mem_cons_of_mem _ he))
      simp only at *
      omega
  obtain ⟨n1, n2, n3⟩ := crN_le (keep := keep) (k := k) (l := obD (obE es1 [Fd.s s])) (s := obS (obE es1 [Fd.s s])) (free := free) ho.2.1 (by omega)
  by_cases c : k < keep.length
  · have hn : crN keep k (obD (obE es1 [Fd.s s])) (obS (obE es1 [Fd.s s])) free = mn3 (mxF (keep.getD k 0)) (((obD (obE es1 [Fd.s s])).length : Int) - obS (obE es1 [Fd.s s])) free := if_pos c
    rw [hn] at n1 n2 n3
    unfold mn3 mxF at n1 n2 n3
    refine ⟨_, _, _, cr_in ro st fu free _ keep dn es1 _ (sortK es) k _ (decide_eq_true (by omega)) (by omega) (by omega) (by simpa using hk) keyT_str rfl (by rw [hs1']; exact hs2) (decide_eq_true (by omega)) (by omega) ?_ ?_ ?_ ?_ ?_ ⟨by omega, by omega⟩ ?_ rfl ?_⟩
    · rw [hs1']; exact ⟨by omega, by omega⟩
    · rw [hs1']; exact ⟨by simp only [Int.toNat_natCast]; omega, by simp only [Int.toNat_natCast]; omega⟩
    · rw [hs1']; simp only [Int.toNat_natCast]; omega
    · rw [hs1']; simp only [Int.toNat_natCast]; omega
    · rw [hs1']; exact ⟨by simp only [Int.toNat_natCast]; omega, by simp only [Int.toNat_natCast]; omega⟩
    · show _ = free - crN keep k (obD (obE es1 [.s (recS ((sortK es).getD k []) 0)])) (obS (obE es1 [.s (recS ((sortK es).getD k []) 0)])) free
      unfold crN
      rw [if_pos c]
      rfl
    · unfold crStep crN
      rw [if_pos c]
      rfl
  · have hn : crN keep k (obD (obE es1 [Fd.s s])) (obS (obE es1 [Fd.s s])) free = 0 := if_neg c
    refine ⟨_, _, _, cr_out ro st fu free _ keep dn es1 _ (sortK es) k _ (decide_eq_true (by omega)) (by omega) (by omega) (by simpa using hk) keyT_str rfl (by rw [hs1']; exact hs2) (decide_eq_false (by omega)) ?_ ?_ ?_ ?_ ⟨by omega, by omega⟩ ?_ rfl ?_⟩
    · rw [hs1']; exact ⟨by omega, by omega⟩
    · rw [hs1']; omega
    · rw [hs1']; omega
    · exact ⟨by omega, by omega⟩
    · show _ = free - crN keep k (obD (obE es1 [.s (recS ((sortK es).getD k []) 0)])) (obS (obE es1 [.s (recS ((sortK es).getD k []) 0)])) free
      unfold crN
      rw [if_neg c]
    · unfold crStep crN
      rw [if_neg c]
      rfl
def crRd (bs : List (BoxSt DF.τ)) : List (A0 DF.τ) → Option (DkT × List Int)
  | [.one (.ref 0 0), .one (.words .i64 keep)] => match dkRd bs with
    | some d => some (d, keep)
    | none => none
  | _ => none
noncomputable def crashQ := mkF DF Try.f14.ntmps crRd (fun t => (dkBt t.1, [.one (.ref 0 0), .one (.words .i64 t.2)])) (fun t => some (.tup [], dkBt (crashM t.1 t.2), [Okd t.1]))
theorem crash_ok : OpOK Try.prog DF 14 crashQ := by
  refine opOK_mk gN_ok mixed Try.func14 (enters_of Try.func14 (by kernel_rfl) rfl) ?_
  rintro ⟨⟨ro, st, fu, dn, es⟩, keep⟩ r' bs' ps h hps
  simp only [Option.some.injEq, Prod.mk.injEq] at h
  obtain ⟨rfl, rfl, rfl⟩ := h
  have hd : Okd (ro, st, fu, dn, es) := hps (Okd _) (by simp)
  exact ⟨_, _, cr_run ro st fu _ keep dn es _ (sortK es) hd.freeN hd.short (cr_loop hd keep) rfl rfl rfl⟩
end Go.Num
namespace Go.Num
open Go.Abs Go.Proofs Go.Shelf Go.RowKit
def clampR (n : Int) : Int := if (4194304 < (if (0 > n) then 0 else n)) then 4194304 else (if (0 > n) then 0 else n)
theorem clampR_ok (n : Int) : 0 ≤ clampR n ∧ clampR n ≤ 4194304 := by
  unfold clampR
  split <;> split <;> omega
def moErr (es : List (Rec × Ob)) (r : Rec) : Int :=
  if rightB (recS r 0) = false then 40 else if hasE es [.s (recS r 0)] = true ∨ recI r 2 < 0 ∨ ((recW r 1).length : Int) < recI r 2 then 1 else 0
def moPut (es : List (Rec × Ob)) (r : Rec) : List (Rec × Ob) := setE es [.s (recS r 0)] (fileOb (recW r 1) (recI r 2))
def moGo : List Rec → List (Rec × Ob) → Int × List (Rec × Ob)
  | [], es => (0, es)
  | r :: rs, es => if moErr es r ≠ 0 then (moErr es r, es) else moGo rs (moPut es r)
def mountE (n : Int) (ll : List Rec) : Int :=
  if 32 < ll.length then 43 else if (moGo ll []).1 ≠ 0 then (moGo ll []).1 else if clampR n - safeSum none (moGo ll []).2 < 0 then 42 else 0
def mountM (n : Int) (ll : List Rec) : DkT := (clampR n, 0, 0, false, (moGo ll []).2)
def FilesOK (ll : List Rec) : Prop := ∀ r ∈ ll, (recS r 0).size ≤ 9223372036854775807 ∧ (recW r 1).length ≤ 140737488355328
theorem moGo_cut : ∀ (ll : List Rec) (es : List (Rec × Ob)), ∃ k, k ≤ ll.length ∧ (∀ j, j < k → moErr ((ll.take j).foldl moPut es) (ll.getD j []) = 0) ∧
    ((k = ll.length ∧ moGo ll es = (0, ll.foldl moPut es)) ∨ (k < ll.length ∧ moErr ((ll.take k).foldl moPut es) (ll.getD k []) ≠ 0 ∧ (moGo ll es).1 = moErr ((ll.take k).foldl moPut es) (ll.getD k [])))
  | [], es => ⟨0, Nat.le_refl _, fun j hj => by omega, Or.inl ⟨rfl, rfl⟩⟩
  | r :: rs, es => by
    by_cases h : moErr es r = 0
    · obtain ⟨k, h1, h2, h3⟩ := moGo_cut rs (moPut es r)
      have hg : moGo (r :: rs) es = moGo rs (moPut es r) := by
        show (if moErr es r ≠ 0 then _ else _) = _
        rw [if_neg (by simp [h])]
      refine ⟨k + 1, by simpa using h1, fun j hj => ?_, ?_⟩
      · cases j with
        | zero => simpa using h
        | succ j => simpa using h2 j (by omega)
      · rcases h3 with ⟨q1, q2⟩ | ⟨q1, q2, q3⟩
        · left
          exact ⟨by simp [q1], by rw [hg, q2]; rfl⟩
        · right
          refine ⟨by simpa using q1, by simpa using q2, ?_⟩
          rw [hg, q3]
          simp
    · refine ⟨0, Nat.zero_le _, fun j hj => by omega, Or.inr ⟨by simp, by simpa using h, ?_⟩⟩
      show (if moErr es r ≠ 0 then _ else _ : Int × List (Rec × Ob)).1 = _
      rw [if_pos h]
      rfl
theorem moErr_0 {es : List (Rec × Ob)} {r : Rec} (h : moErr es r = 0) : rightB (recS r 0) = true ∧ hasE es [.s (recS r 0)] = false ∧ 0 ≤ recI r 2 ∧ recI r 2 ≤ ((recW r 1).length : Int) := by
  unfold moErr at h
  split at h
  · cases h
  · rename_i h1
    split at h
    · cases h
    · rename_i h2
      refine ⟨by simpa using h1, by cases hh : hasE es [.s (recS r 0)]; rfl; exact (h2 (Or.inl hh)).elim, Int.not_lt.1 (fun hh => h2 (Or.inr (Or.inl hh))), Int.not_lt.1 (fun hh => h2 (Or.inr (Or.inr hh)))⟩
structure Mid (es : List (Rec × Ob)) (k : Nat) : Prop where
  keys : ∀ e ∈ es, ∃ s, e.1 = [Fd.s s] ∧ rightB s = true
  nodup : (es.map (·.1)).Nodup
  obs : ∀ e ∈ es, ObOK e.2
  len : es.length = k
theorem mid_put {es : List (Rec × Ob)} {k : Nat} (h : Mid es k) {r : Rec} (hr : moErr es r = 0) (hw : (recW r 1).length ≤ 140737488355328) : Mid (moPut es r) (k + 1) := by
  obtain ⟨h1, h2, h3, h4⟩ := moErr_0 hr
  unfold moPut
  rw [setE_keysN h2]
  refine ⟨fun e he => ?_, ?_, fun e he => ?_, ?_⟩
  · rcases List.mem_append.1 he with he | he
    · exact h.keys e he
    · rw [List.mem_singleton.1 he]
      exact ⟨_, rfl, h1⟩
  · rw [List.map_append, List.nodup_append]
    refine ⟨h.nodup, by simp, fun a ha b hb => ?_⟩
    simp only [List.map_cons, List.map_nil, List.mem_singleton] at hb
    subst hb
    intro e
    subst e
    rw [hasE_iff.2 ha] at h2
    cases h2
  · rcases List.mem_append.1 he with he | he
    · exact h.obs e he
    · rw [List.mem_singleton.1 he]
      exact ⟨_, _, rfl, h3, h4, hw⟩
  · rw [List.length_append, h.len]
    rfl
theorem mid_go {ll : List Rec} (hf : FilesOK ll) {k : Nat} (hk : k ≤ ll.length) (h : ∀ j, j < k → moErr ((ll.take j).foldl moPut []) (ll.getD j []) = 0) : ∀ j, j ≤ k → Mid ((ll.take j).foldl moPut []) j := by
  intro j
  induction j with
  | zero => exact fun _ => ⟨fun e he => by simp at he, by simp, fun e he => by simp at he, rfl⟩
  | succ j ih =>
    intro hj
    have hlt : j < ll.length := by omega
    have e1 : ll.getD j [] = ll[j] := by rw [List.getD_eq_getElem?_getD, List.getElem?_eq_getElem hlt]; rfl
    have e2 : (ll.take (j + 1)).foldl moPut [] = moPut ((ll.take j).foldl moPut []) (ll.getD j []) := by
      rw [List.take_add_one, List.getElem?_eq_getElem hlt, List.foldl_append, e1]
      rfl
    rw [e2]
    refine mid_put (ih (by omega)) (h j (by omega)) ?_
    rw [e1]
    exact (hf _ (List.getElem_mem hlt)).2
theorem mid_sum {es : List (Rec × Ob)} (h : ∀ e ∈ es, ObOK e.2) : 0 ≤ safeSum none es ∧ safeSum none es ≤ 140737488355328 * (es.length : Int) := by
  induction es with
  | nil => exact ⟨by decide, by decide⟩
  | cons e es ih =>
    obtain ⟨x, o⟩ := e
    obtain ⟨l, n, h1, h2, h3, h4⟩ := h _ (List.mem_cons_self ..)
    have hi := ih (fun e he => h e (List.mem_cons_of_mem _ he))
    rw [safeSum_cons, List.length_cons]
    simp only at h1
    have : obS o = n := by rw [h1]; rfl
    rw [this]
    omega
theorem gM_ok : GamOK Try.prog DF gM := gam_look (gam_op ne_ok (gam_cons right_ok (gam_cons clone_ok (gam_rd freeR_ok gam_nil))))
theorem gM1_ok : GamOK Try.prog DF gM1 := gam_op ne_ok (gam_cons right_ok (gam_cons clone_ok (gam_rd freeR_ok gam_nil)))
theorem mo_steps {ll : List Rec} (hf : FilesOK ll) (h32 : ll.length ≤ 32) (ro : Int) {k : Nat} (hk : k ≤ ll.length) (h : ∀ j, j < k → moErr ((ll.take j).foldl moPut []) (ll.getD j []) = 0) : ∀ j, j < k →
    ∃ fuel nid ds ps, stepPs Try.prog DF gM fuel (bodyN Try.f22 0) nid (moSn ll ro ((ll.take j).foldl moPut []) (j : Nat)).st ds .normal (moSn ll ro ((ll.take (j + 1)).foldl moPut []) ((j + 1 : Nat) : Int)) = some ps ∧ AllQ ps := by
  intro j hj
  have hlt : j < ll.length := by omega
  have e1 : ll.getD j [] = ll[j] := by rw [List.getD_eq_getElem?_getD, List.getElem?_eq_getElem hlt]; rfl
  have e2 : (ll.take (j + 1)).foldl moPut [] = moPut ((ll.take j).foldl moPut []) (ll.getD j []) := by
    rw [List.take_add_one, List.getElem?_eq_getElem hlt, List.foldl_append, e1]
    rfl
  obtain ⟨q1, q2⟩ := hf ll[j] (List.getElem_mem hlt)
  rw [← e1] at q1 q2
  obtain ⟨h1, h2, h3, h4⟩ := moErr_0 (h j hj)
  rw [e2]
  exact ⟨_, _, _, mo_step ll ro _ _ j _ (decide_eq_true (by omega)) (by omega) (by omega) h1 q1 keyT_str rfl h2 (decide_eq_false (Int.not_lt.2 h3)) (decide_eq_false (Int.not_lt.2 h4)) q2 ⟨by omega, by omega⟩ rfl rfl rfl (setE_twice ..)⟩
theorem mo_loop {ll : List Rec} (hf : FilesOK ll) (h32 : ll.length ≤ 32) (ro : Int) (h : (moGo ll []).1 = 0) :
    SumOK Try.prog DF (bodyN Try.f22 0) (loopL DF (moSn ll ro [] (0 : Nat)) (.exit 0) (moEnd ro (moGo ll []).2)) ∧ Mid (moGo ll []).2 ll.length := by
  obtain ⟨k, h1, h2, h3⟩ := moGo_cut ll []
  rcases h3 with ⟨q1, q2⟩ | ⟨q1, q2, q3⟩
  · subst q1
    rw [q2]
    have ht : (ll.take ll.length).foldl moPut [] = ll.foldl moPut [] := by rw [List.take_length]
    refine ⟨?_, ?_⟩
    · have := sum_loop gM_ok mixed (c := bodyN Try.f22 0) (fun j => moSn ll ro ((ll.take j).foldl moPut []) j) ll.length (e := .exit 0) (s := moEnd ro (ll.foldl moPut [])) rfl (fun j hj => mo_steps hf h32 ro h1 h2 j hj) (by
        rw [ht]
        exact ⟨_, _, _, mo_exit ll ro _ _ (decide_eq_false (by omega))⟩)
      exact this
    · have := mid_go hf h1 h2 ll.length (Nat.le_refl _)
      rw [ht] at this
      exact this
  · rw [h] at q3
    exact (q2 q3.symm).elim
theorem mo_loopB {ll : List Rec} (hf : FilesOK ll) (h32 : ll.length ≤ 32) (ro : Int) (h : (moGo ll []).1 ≠ 0) :
    SumOK Try.prog DF (bodyN Try.f22 0) (loopL DF (moSn ll ro [] (0 : Nat)) .ret (moBad (moGo ll []).1)) := by
  obtain ⟨k, h1, h2, h3⟩ := moGo_cut ll []
  rcases h3 with ⟨q1, q2⟩ | ⟨q1, q2, q3⟩
  · rw [q2] at h
    exact (h rfl).elim
  · have e1 : ll.getD k [] = ll[k] := by rw [List.getD_eq_getElem?_getD, List.getElem?_eq_getElem q1]; rfl
    obtain ⟨w1, w2⟩ := hf ll[k] (List.getElem_mem q1)
    rw [← e1] at w1 w2
    have hstep := mo_steps hf h32 ro h1 h2
    rw [q3]
    clear q3
    unfold moErr at q2 ⊢
    by_cases c1 : rightB (recS (ll.getD k []) 0) = false
    · rw [if_pos c1]
      exact sum_loop gM_ok mixed (c := bodyN Try.f22 0) (fun j => moSn ll ro ((ll.take j).foldl moPut []) j) k (e := .ret) rfl hstep ⟨_, _, _, mo_name ll ro _ _ k (decide_eq_true (by omega)) (by omega) (by omega) c1 w1 rfl⟩
    · rw [if_neg c1] at q2 ⊢
      have c1' : rightB (recS (ll.getD k []) 0) = true := by simpa using c1
      by_cases c2 : hasE ((ll.take k).foldl moPut []) [.s (recS (ll.getD k []) 0)] = true ∨ recI (ll.getD k []) 2 < 0 ∨ ((recW (ll.getD k []) 1).length : Int) < recI (ll.getD k []) 2
      · rw [if_pos c2]
        by_cases d1 : hasE ((ll.take k).foldl moPut []) [.s (recS (ll.getD k []) 0)] = true
        · have hx := sum_whileG (P := Try.prog) (D := DF) mixed (c := bodyN Try.f22 0) (fun j : Nat => moSn ll ro ((ll.take j).foldl moPut []) (j : Nat)) (fun j => if j < k then some (j + 1) else none) (fun j => j ≤ k) (fun j => k - j) (e := .ret) (s := moBad 1) rfl 0 (Nat.zero_le _)
            (fun x y hx hy => ?_) (fun z hz1 hz2 _ => ?_)
          · exact hx
          · split at hy
            · rename_i hxk
              cases hy
              obtain ⟨fuel, nid, ds, ps, hps⟩ := hstep x hxk
              exact ⟨by omega, by omega, _, fuel, nid, ds, ps, gM_ok, hps⟩
            · cases hy
          · have hzk : z = k := by
              split at hz2
              · cases hz2
              · omega
            subst hzk
            obtain ⟨ps, hps⟩ := mo_there ll ro 1 _ z (decide_eq_true (by omega)) (by omega) (by omega) c1' w1 keyT_str rfl d1 rfl
            exact ⟨_, _, _, _, ps, gM1_ok, hps⟩
        · have d1' : hasE ((ll.take k).foldl moPut []) [.s (recS (ll.getD k []) 0)] = false := by simpa using d1
          by_cases d2 : recI (ll.getD k []) 2 < 0
          · exact sum_loop gM_ok mixed (c := bodyN Try.f22 0) (fun j => moSn ll ro ((ll.take j).foldl moPut []) j) k (e := .ret) rfl hstep ⟨_, _, _, mo_neg ll ro _ _ k (decide_eq_true (by omega)) (by omega) (by omega) c1' w1 keyT_str rfl d1' (decide_eq_true d2) rfl⟩
          · have d3 : ((recW (ll.getD k []) 1).length : Int) < recI (ll.getD k []) 2 := by
              rcases c2 with c | c | c
              · exact (d1 c).elim
              · exact (d2 c).elim
              · exact c
            exact sum_loop gM_ok mixed (c := bodyN Try.f22 0) (fun j => moSn ll ro ((ll.take j).foldl moPut []) j) k (e := .ret) rfl hstep ⟨_, _, _, mo_more ll ro _ _ k (decide_eq_true (by omega)) (by omega) (by omega) c1' w1 keyT_str rfl d1' (decide_eq_false d2) (decide_eq_true d3) rfl⟩
      · rw [if_neg c2] at q2
        exact (q2 rfl).elim
def moRd : List (BoxSt DF.τ) → List (A0 DF.τ) → Option (Int × List Rec)
  | [], [.one (.int .i64 _ n), .one (.prs sh ll)] => bif shEq sh fSh then some (n, ll) else none
  | [], [.one (.int .i64 _ n), .one .nil] => some (n, [])
  | _, _ => none
def moPre (t : Int × List Rec) : List (BoxSt DF.τ) × List (A0 DF.τ) := ([], [.one (.int .i64 false t.1), .one (.prs fSh t.2)])
noncomputable def mountBadQ := mkF DF Try.f22.ntmps moRd moPre (fun t => some (.tup [.one .nilp, .one (.int .i64 false (mountE t.1 t.2))], [], [FilesOK t.2, mountE t.1 t.2 ≠ 0]))
noncomputable def mountOkQ := mkF DF Try.f22.ntmps moRd moPre (fun t => some (.tup [.one (.ref 0 0), .one (.int .i64 true 0)], dkBt (mountM t.1 t.2), [FilesOK t.2, mountE t.1 t.2 = 0]))
theorem mountE_ok {n : Int} {ll : List Rec} (h : mountE n ll = 0) : ll.length ≤ 32 ∧ (moGo ll []).1 = 0 ∧ 0 ≤ clampR n - safeSum none (moGo ll []).2 := by
  unfold mountE at h
  split at h
  · cases h
  · rename_i h1
    split at h
    · rename_i h2; exact (h2 h).elim
    · rename_i h2
      split at h
      · cases h
      · rename_i h3
        exact ⟨by omega, Classical.not_not.1 h2, by omega⟩
theorem mount_okd {n : Int} {ll : List Rec} (hf : FilesOK ll) (h : mountE n ll = 0) : Okd (mountM n ll) := by
  obtain ⟨h1, h2, h3⟩ := mountE_ok h
  obtain ⟨_, hm⟩ := mo_loop hf h1 (clampR n) h2
  exact ⟨hm.keys, hm.nodup, hm.obs, by show (moGo ll []).2.length ≤ 32; rw [hm.len]; exact h1, clampR_ok n, by show safeSum none (moGo ll []).2 ≤ clampR n; omega, Int.le_refl _, ⟨Int.le_refl _, (by decide : (0 : Int) ≤ 9223372036854775807)⟩⟩
theorem mid_free {es : List (Rec × Ob)} {k : Nat} (h : Mid es k) (hk : k ≤ 32) {ro : Int} (hr : 0 ≤ ro ∧ ro ≤ 4194304) : FreeOK none es ro := by
  have := mid_sum h.obs
  have hl := h.len
  refine ⟨fun e he => ?_, by omega, by omega, by omega⟩
  obtain ⟨l, n, h1, h2, _⟩ := h.obs e he
  show 0 ≤ obS e.2
  rw [h1]
  exact h2
theorem mountOk_ok : OpOK Try.prog DF 22 mountOkQ := by
  refine opOK_mk gM_ok mixed Try.func22 (enters_of Try.func22 (by kernel_rfl) rfl) ?_
  rintro ⟨n, ll⟩ r' bs' ps h hps
  simp only [Option.some.injEq, Prod.mk.injEq] at h
  obtain ⟨rfl, rfl, rfl⟩ := h
  have hf : FilesOK ll := hps (FilesOK ll) (by simp)
  have he : mountE n ll = 0 := hps (mountE n ll = 0) (by simp)
  obtain ⟨h1, h2, h3⟩ := mountE_ok he
  obtain ⟨hl, hm⟩ := mo_loop hf h1 (clampR n) h2
  exact ⟨_, _, mo_ok n (clampR n) ll _ (decide_eq_false (by omega)) hl rfl (mid_free hm h1 (clampR_ok n)) (decide_eq_false (Int.not_lt.2 h3))⟩
theorem mountBad_ok : OpOK Try.prog DF 22 mountBadQ := by
  refine opOK_mk gM_ok mixed Try.func22 (enters_of Try.func22 (by kernel_rfl) rfl) ?_
  rintro ⟨n, ll⟩ r' bs' ps h hps
  simp only [Option.some.injEq, Prod.mk.injEq] at h
  obtain ⟨rfl, rfl, rfl⟩ := h
  have hf : FilesOK ll := hps (FilesOK ll) (by simp)
  have he : mountE n ll ≠ 0 := hps (mountE n ll ≠ 0) (by simp)
  by_cases h1 : 32 < ll.length
  · exact ⟨_, _, mo_many n _ ll (decide_eq_true (by omega)) (if_pos h1).symm⟩
  by_cases h2 : (moGo ll []).1 = 0
  · obtain ⟨hl, hm⟩ := mo_loop hf (by omega) (clampR n) h2
    have h3 : clampR n - safeSum none (moGo ll []).2 < 0 := by
      apply Classical.byContradiction
      intro hh
      apply he
      unfold mountE
      rw [if_neg h1, if_neg (by simp [h2]), if_neg hh]
    refine ⟨_, _, mo_full n _ (clampR n) ll _ (decide_eq_false (by omega)) hl rfl (mid_free hm (by omega) (clampR_ok n)) (decide_eq_true (by omega)) ?_⟩
    unfold mountE
    rw [if_neg h1, if_neg (by simp [h2]), if_pos h3]
  · refine ⟨_, _, mo_bad n _ (clampR n) ll (decide_eq_false (by omega)) ?_ rfl⟩
    have : mountE n ll = (moGo ll []).1 := by
      unfold mountE
      rw [if_neg h1, if_pos h2]
    rw [this]
    exact mo_loopB hf (by omega) (clampR n) h2
end Go.Num
namespace Go.Num
open Go.Abs Go.Proofs Go.Shelf Go.RowKit
noncomputable def newQ := mkF DF Try.f8.ntmps (fun bs xs => match bs, xs with | [], [.one (.int .i64 _ n)] => some n | _, _ => none) (fun n => ([], [.one (.int .i64 false n)]))
  (fun n => some (.v (.one (.ref 0 0)), dkBt (clampR n, 0, 0, false, []), []))
theorem new_ok : OpOK Try.prog DF 8 newQ := by
  refine opOK_mk gam_nil mixed Try.func8 (enters_of Try.func8 (by kernel_rfl) rfl) ?_
  intro n r' bs' ps h hps
  simp only [Option.some.injEq, Prod.mk.injEq] at h
  obtain ⟨rfl, rfl, rfl⟩ := h
  exact ⟨_, _, ne_run n _ rfl⟩
noncomputable def gDk : Gam DF := [(8, .op [false] newQ), (10, .op [true, false, false] appendQ), (12, .op [true, false] syncQ), (21, .op [true, false, false] cutQ),
  (20, .op [true, false] dropQ), (15, .rd [true, false] readR), (18, .rd [true] imageR), (17, .rd [true] freeR),
  (23, .rd [true] stepsR), (24, .rd [true] downR), (13, .op [true, false] fuseQ), (14, .op [true, false] crashQ), (11, .fn (copyD DF)), (16, .fn (sameD DF))]
theorem gDk_ok : GamOK Try.prog DF gDk :=
  gam_op new_ok (gam_op append_ok (gam_op sync_ok (gam_op cut_ok (gam_op drop_ok (gam_rd read_ok (gam_rd image_ok (gam_rd freeR_ok (gam_rd steps_ok (gam_rd down_ok (gam_op fuse_ok (gam_op crash_ok (gam_cons (copy_ok DF) (gam_cons (same_ok DF) gam_nil)))))))))))))
abbrev hd_run_x1  := ((appendM ((syncM ((appendM ((clampR (4 : Int)), ((0 : Int), ((0 : Int), (false, ([] : List (Rec × Ob)))))) (⟨#[97]⟩ : ByteArray) ([(1 : Int), (2 : Int), (3 : Int)] : List Int))).2 (⟨#[97]⟩ : ByteArray))).2 (⟨#[97]⟩ : ByteArray) ([(4 : Int), (5 : Int)] : List Int)))
abbrev hd_run_x2  := ((appendM ((clampR (4 : Int)), ((0 : Int), ((0 : Int), (false, ([] : List (Rec × Ob)))))) (⟨#[97]⟩ : ByteArray) ([(1 : Int), (2 : Int), (3 : Int)] : List Int)))
abbrev hd_run_x3  := (crashM ((syncM (hd_run_x1 ).2 (⟨#[97]⟩ : ByteArray))).2 ([(9 : Int)] : List Int))
abbrev hd_run_x4  := ((syncM (hd_run_x2 ).2 (⟨#[97]⟩ : ByteArray)))
abbrev hd_run_x5  := ((syncM (hd_run_x1 ).2 (⟨#[97]⟩ : ByteArray)))
theorem hd_run
 (h1 : (DkOK ((clampR (4 : Int)), ((0 : Int), ((0 : Int), (false, ([] : List (Rec × Ob))))))))
 (h2 : (((hd_run_x2 ).1 != (0 : Int)) = false))
 (h3 : (DkOK (hd_run_x2 ).2))
 (h4 : (((hd_run_x4 ).1 != (0 : Int)) = false))
 (h5 : (DkOK (hd_run_x4 ).2))
 (h6 : (((hd_run_x1 ).1 != (0 : Int)) = false))
 (h7 : (DkOK (hd_run_x1 ).2))
 (h8 : (((hd_run_x5 ).1 != (42 : Int)) = false))
 (h9 : (Okd (hd_run_x5 ).2))
 (h10 : (Okd (hd_run_x3 )))
 (h11 : ((((readM (hd_run_x3 ) (⟨#[97]⟩ : ByteArray))).1 == (0 : Int)) = true))
 (h12 : ((decide (((readM (hd_run_x3 ) (⟨#[97]⟩ : ByteArray))).2 = ([(1 : Int), (2 : Int), (3 : Int), (4 : Int)] : List Int))) = true))
 (h13 : ((List.length ((readM (hd_run_x3 ) (⟨#[97]⟩ : ByteArray))).2) ≤ (9223372036854775807 : Nat)))
 (h14 : (FreeOK (Option.none) (((((hd_run_x3 )).2).2).2).2 ((hd_run_x3 )).1))
 (h15 : (((((hd_run_x3 )).1 - (safeSum (Option.none) (((((hd_run_x3 )).2).2).2).2)) == (0 : Int)) = true))
 (h16 : (((((hd_run_x3 )).2).1 == (3 : Int)) = true)) :
 ∃ ps, runF Try.prog DF gDk 100 Try.f9 [] [.is false, .is false, .is false, .is false, .is true, .is true, .is true, .is true] = some ((AV.v (A0.one (Part.bool true true))), ps) ∧ AllQ ps := ⟨_, by kernel_rfl, qc (Eq.refl ((4 : Int))) (qc (Eq.refl ((⟨#[97]⟩ : ByteArray))) (qc (Eq.refl (([(1 : Int), (2 : Int), (3 : Int)] : List Int))) (qc (Eq.refl ((clampR (4 : Int)))) (qc (Eq.refl ((0 : Int))) (qc (Eq.refl ((0 : Int))) (qc (Eq.refl false) (qc (Eq.refl (([] : List (Rec × Ob)))) (qc h1 (qc (show ((1 : Nat) ≤ (9223372036854775807 : Nat)) from by decide) (qc (show ((3 : Nat) ≤ (4611686018427387904 : Nat)) from by decide) (qc h2 (qc (Eq.refl ((⟨#[97]⟩ : ByteArray))) (qc (Eq.refl (((hd_run_x2 ).2).1)) (qc (Eq.refl ((((hd_run_x2 ).2).2).1)) (qc (Eq.refl (((((hd_run_x2 ).2).2).2).1)) (qc (Eq.refl ((((((hd_run_x2 ).2).2).2).2).1)) (qc (Eq.refl ((((((hd_run_x2 ).2).2).2).2).2)) (qc h3 (qc (show ((1 : Nat) ≤ (9223372036854775807 : Nat)) from by decide) (qc h4 (qc (Eq.refl ((⟨#[97]⟩ : ByteArray))) (qc (Eq.refl (([(4 : Int), (5 : Int)] : List Int))) (qc (Eq.refl (((hd_run_x4 ).2).1)) (qc (Eq.refl ((((hd_run_x4 ).2).2).1)) (qc (Eq.refl (((((hd_run_x4 ).2).2).2).1)) (qc (Eq.refl ((((((hd_run_x4 ).2).2).2).2).1)) (qc (Eq.refl ((((((hd_run_x4 ).2).2).2).2).2)) (qc h5 (qc (show ((1 : Nat) ≤ (9223372036854775807 : Nat)) from by decide) (qc (show ((2 : Nat) ≤ (4611686018427387904 : Nat)) from by decide) (qc h6 (qc (Eq.refl ((⟨#[97]⟩ : ByteArray))) (qc (Eq.refl (((hd_run_x1 ).2).1)) (qc (Eq.refl ((((hd_run_x1 ).2).2).1)) (qc (Eq.refl (((((hd_run_x1 ).2).2).2).1)) (qc (Eq.refl ((((((hd_run_x1 ).2).2).2).2).1)) (qc (Eq.refl ((((((hd_run_x1 ).2).2).2).2).2)) (qc h7 (qc (show ((1 : Nat) ≤ (9223372036854775807 : Nat)) from by decide) (qc h8 (qc (Eq.refl (([(9 : Int)] : List Int))) (qc (Eq.refl (((hd_run_x5 ).2).1)) (qc (Eq.refl ((((hd_run_x5 ).2).2).1)) (qc (Eq.refl (((((hd_run_x5 ).2).2).2).1)) (qc (Eq.refl ((((((hd_run_x5 ).2).2).2).2).1)) (qc (Eq.refl ((((((hd_run_x5 ).2).2).2).2).2)) (qc h9 (qc (Eq.refl ((⟨#[97]⟩ : ByteArray))) (qc (Eq.refl (((hd_run_x3 )).1)) (qc (Eq.refl ((((hd_run_x3 )).2).1)) (qc (Eq.refl (((((hd_run_x3 )).2).2).1)) (qc (Eq.refl ((((((hd_run_x3 )).2).2).2).1)) (qc (Eq.refl ((((((hd_run_x3 )).2).2).2).2)) (qc h10 (qc (show ((1 : Nat) ≤ (9223372036854775807 : Nat)) from by decide) (qc h11 (qc h12 (qc h13 (qc (show ((4 : Nat) ≤ (9223372036854775807 : Nat)) from by decide) (qc h14 (qc h15 (qc (Eq.refl (((hd_run_x3 )).1)) (qc (Eq.refl ((((hd_run_x3 )).2).1)) (qc (Eq.refl (((((hd_run_x3 )).2).2).1)) (qc (Eq.refl ((((((hd_run_x3 )).2).2).2).1)) (qc (Eq.refl ((((((hd_run_x3 )).2).2).2).2)) (qc h16 (qn))))))))))))))))))))))))))))))))))))))))))))))))))))))))))))))))))))⟩
theorem sortK_one (s : ByteArray) (o : Ob) : sortK [([Fd.s s], o)] = [[Fd.s s]] := by
  unfold sortK keyL
  rw [show ([([Fd.s s], o)] : List (Rec × Ob)).map (fun e => (recS e.1 0).data.toList) = [s.data.toList] from rfl, List.mergeSort_singleton]
  show [[Fd.s ⟨s.data.toList.toArray⟩]] = _
  rw [ba_back]
theorem sortK_nil : sortK [] = [] := by
  unfold sortK keyL
  rw [List.map_nil, List.mergeSort_nil]
  rfl
theorem okd_new (n : Int) : Okd (clampR n, 0, 0, false, []) :=
  ⟨fun e he => (List.not_mem_nil he).elim, List.nodup_nil, fun e he => (List.not_mem_nil he).elim, Nat.zero_le _, clampR_ok n, (clampR_ok n).1, Int.le_refl _, ⟨Int.le_refl _, (by decide : (0 : Int) ≤ 9223372036854775807)⟩⟩
def OkN (d : DkT) (n : Int) : Prop := Okd d ∧ d.2.1 ≤ n
theorem OkN.dk {d : DkT} {n : Int} (h : OkN d n) (hn : n ≤ 4611686018427387904) : DkOK d := ⟨h.1, by have := h.2; omega⟩
theorem OkN.nxt {d d' : DkT} {n : Int} (h : OkN d n) (hx : Nxt d d') : OkN d' (n + 1) := ⟨hx.1, by have := h.2; have := hx.2.1; omega⟩
abbrev cA : ByteArray := ⟨#[97]⟩
def hd0 : DkT := (clampR 4, 0, 0, false, [])
def hd4 : DkT := (syncM (appendM (syncM (appendM hd0 cA [1, 2, 3]).2 cA).2 cA [4, 5]).2 cA).2
theorem hd4_is : hd4 = (4, 3, 0, false, [([Fd.s cA], fileOb [1, 2, 3, 4, 5] 3)]) := by kernel_rfl
theorem hd5_is : crashM hd4 [9] = (4, 3, 0, false, [([Fd.s cA], fileOb [1, 2, 3, 4] 4)]) := by
  rw [hd4_is]
  unfold crashM
  simp only
  rw [sortK_one]
  kernel_rfl
def headD : FnD DF
  | [] => some (.v (.one (.bool true true)), [])
  | _ => none
theorem head_ok : FnOK Try.prog DF 9 headD := by
  refine fnOK_of gDk_ok mixed Try.func9 (enters_of Try.func9 (by kernel_rfl) rfl) ?_
  intro xs r ps h hps
  unfold headD at h
  split at h
  · cases h
    have o0 : OkN hd0 0 := ⟨okd_new 4, Int.le_refl _⟩
    have o1 := o0.nxt (append_nxt o0.1 cA [1, 2, 3])
    have o2 := o1.nxt (sync_nxt o1.1 cA)
    have o3 := o2.nxt (append_nxt o2.1 cA [4, 5])
    have o4 := o3.nxt (sync_nxt o3.1 cA)
    have o5 : Okd (crashM hd4 [9]) := crash_ok0 o4.1 [9]
    have e1 : ((readM (crashM hd4 [9]) cA).1 == 0) = true := by rw [hd5_is]; kernel_rfl
    have e2 : (readM (crashM hd4 [9]) cA).2 = [1, 2, 3, 4] := by rw [hd5_is]; kernel_rfl
    have e3 : ((crashM hd4 [9]).1 - safeSum none (crashM hd4 [9]).2.2.2.2 == 0) = true := by rw [hd5_is]; kernel_rfl
    have e4 : ((crashM hd4 [9]).2.1 == 3) = true := by rw [hd5_is]; kernel_rfl
    have e6 : (readM (crashM hd4 [9]) cA).2.length ≤ 9223372036854775807 := by rw [e2]; decide
    obtain ⟨ps, p1, p2⟩ := hd_run (o0.dk (by decide)) (by kernel_rfl) (o1.dk (by decide)) (by kernel_rfl) (o2.dk (by decide)) (by kernel_rfl) (o3.dk (by decide)) (by kernel_rfl) o4.1 o5 e1 (decide_eq_true e2) e6 o5.freeN e3 e4
    exact ⟨_, 100, _, _, _, fun w vs h => h, p1, p2, fun E v hv => hv⟩
  · cases h
end Go.Num
namespace Go.Num
open Go.Abs Go.Proofs Go.Shelf Go.RowKit
def one (s : ByteArray) (l : List Int) (n : Int) : List (Rec × Ob) := [([Fd.s s], fileOb l n)]
end Go.Num

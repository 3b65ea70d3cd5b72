/- Disk: what Append, Sync, Cut, Move, Drop do: the contracts. -/
import Derived.Test.YtakigppkbolmnaaD7
namespace Go.Num
open Go.Abs Go.Proofs Go.Shelf Go.RowKit

/-! A disk that is as it should be -/

def ObOK (o : Ob) : Prop := ∃ l n, o = fileOb l n ∧ 0 ≤ n ∧ n ≤ (l.length : Int) ∧ l.length ≤ 140737488355328
structure Okd (d : DkT) : Prop where
  keys : ∀ e ∈ d.2.2.2.2, ∃ s, e.1 = [Fd.s s] ∧ rightB s = true
  nodup : (d.2.2.2.2.map (·.1)).Nodup
  obs : ∀ e ∈ d.2.2.2.2, ObOK e.2
  len : d.2.2.2.2.length ≤ 32
  room : 0 ≤ d.1 ∧ d.1 ≤ 4194304
  free : safeSum none d.2.2.2.2 ≤ d.1
  steps : 0 ≤ d.2.1
  fuse : 0 ≤ d.2.2.1 ∧ d.2.2.1 ≤ 9223372036854775807

theorem rightB_size {s : ByteArray} (h : rightB s = true) : 1 ≤ s.size ∧ s.size ≤ 24 := by
  unfold rightB at h
  simp only [Bool.and_eq_true, decide_eq_true_eq] at h
  exact h.1

theorem hasE_mem {es : List (Rec × Ob)} {k : Rec} (h : hasE es k = true) : (k, obE es k) ∈ es := by
  induction es with
  | nil => cases h
  | cons e es ih =>
    obtain ⟨x, o⟩ := e
    by_cases hx : x = k
    · subst hx
      have : obE ((x, o) :: es) x = o := by simp [obE, getE]
      rw [this]
      exact List.mem_cons_self ..
    · have h1 : hasE es k = true := by simpa [hasE, getE, hx] using h
      have h2 : obE ((x, o) :: es) k = obE es k := by simp [obE, getE, hx]
      rw [h2]
      exact List.mem_cons_of_mem _ (ih h1)

theorem obE_none {es : List (Rec × Ob)} {k : Rec} (h : hasE es k = false) : obE es k = .node [] [] := by
  unfold hasE at h
  unfold obE
  cases hg : getE es k with
  | none => rfl
  | some o => rw [hg] at h; cases h

theorem setE_same {es : List (Rec × Ob)} {k : Rec} (h : hasE es k = true) : setE es k (obE es k) = es := by
  induction es with
  | nil => cases h
  | cons e es ih =>
    obtain ⟨x, o⟩ := e
    by_cases hx : x = k
    · subst hx
      simp [setE, obE, getE]
    · have h1 : hasE es k = true := by simpa [hasE, getE, hx] using h
      have h2 : obE ((x, o) :: es) k = obE es k := by simp [obE, getE, hx]
      rw [h2]
      simp [setE, hx, ih h1]

theorem Okd.canon {d : DkT} (h : Okd d) {k : Rec} (hk : hasE d.2.2.2.2 k = true) : fileOb (obD (obE d.2.2.2.2 k)) (obS (obE d.2.2.2.2 k)) = obE d.2.2.2.2 k := by
  obtain ⟨l, n, e, _⟩ := h.obs _ (hasE_mem hk)
  simp only at e
  rw [e]
  rfl

theorem Okd.back {d : DkT} (h : Okd d) {k : Rec} (hk : hasE d.2.2.2.2 k = true) : setE d.2.2.2.2 k (Ob.node [Fd.w (obD (obE d.2.2.2.2 k)), Fd.i (obS (obE d.2.2.2.2 k))] []) = d.2.2.2.2 := by
  have := h.canon hk
  unfold fileOb at this
  rw [this]
  exact setE_same hk

theorem Okd.ob {d : DkT} (h : Okd d) (k : Rec) : 0 ≤ obS (obE d.2.2.2.2 k) ∧ obS (obE d.2.2.2.2 k) ≤ ((obD (obE d.2.2.2.2 k)).length : Int) ∧ (obD (obE d.2.2.2.2 k)).length ≤ 140737488355328 := by
  cases hk : hasE d.2.2.2.2 k
  · rw [obE_none hk]
    exact ⟨by decide, by decide, by decide⟩
  · obtain ⟨l, n, e, h1, h2, h3⟩ := h.obs _ (hasE_mem hk)
    simp only at e
    rw [e]
    exact ⟨h1, h2, h3⟩

theorem safe_out : ∀ {es : List (Rec × Ob)} {k : Rec}, (es.map (·.1)).Nodup → es.map (safeOf (some (k, obS (obE es k)))) = es.map (safeOf none)
  | [], _, _ => rfl
  | (x, o) :: es, k, h => by
    simp only [List.map_cons, List.nodup_cons] at h
    by_cases hx : x = k
    · subst hx
      have h1 : obE ((x, o) :: es) x = o := by simp [obE, getE]
      rw [h1]
      simp only [List.map_cons, List.cons.injEq]
      refine ⟨by simp [safeOf], List.map_congr_left fun e he => ?_⟩
      have : e.1 ≠ x := fun hh => h.1 (List.mem_map.2 ⟨e, he, hh⟩)
      simp [safeOf, this]
    · have h2 : obE ((x, o) :: es) k = obE es k := by simp [obE, getE, hx]
      rw [h2]
      simp only [List.map_cons, List.cons.injEq]
      exact ⟨by simp [safeOf, hx], safe_out h.2⟩

theorem Okd.freeO {d : DkT} (h : Okd d) (k : Rec) : FreeOK (some (k, obS (obE d.2.2.2.2 k))) d.2.2.2.2 d.1 ∧ safeSum (some (k, obS (obE d.2.2.2.2 k))) d.2.2.2.2 = safeSum none d.2.2.2.2 := by
  have h1 := safe_out (k := k) h.nodup
  have h2 : safeSum (some (k, obS (obE d.2.2.2.2 k))) d.2.2.2.2 = safeSum none d.2.2.2.2 := by unfold safeSum; rw [h1]
  have h3 := h.room
  have h4 := h.free
  refine ⟨⟨fun e he => ?_, by omega, by omega, by omega⟩, h2⟩
  have : safeOf (some (k, obS (obE d.2.2.2.2 k))) e ∈ d.2.2.2.2.map (safeOf none) := by rw [← h1]; exact List.mem_map.2 ⟨e, he, rfl⟩
  obtain ⟨e', he', hee⟩ := List.mem_map.1 this
  rw [← hee]
  obtain ⟨l, n, e1, e2, _⟩ := h.obs e' he'
  show 0 ≤ obS e'.2
  rw [e1]
  exact e2

theorem Okd.freeN {d : DkT} (h : Okd d) : FreeOK none d.2.2.2.2 d.1 := by
  have h3 := h.room
  have h4 := h.free
  refine ⟨fun e he => ?_, by omega, by omega, by omega⟩
  obtain ⟨l, n, e1, e2, _⟩ := h.obs e he
  show 0 ≤ obS e.2
  rw [e1]
  exact e2

theorem errF_41 {dn : Bool} {es : List (Rec × Ob)} {s : ByteArray} (h : errF dn es s = 41) : dn = false ∧ rightB s = true ∧ hasE es [Fd.s s] = false := by
  unfold errF at h
  split at h
  · cases h
  · rename_i h1
    split at h
    · rename_i h2
      split at h
      · cases h
      · rename_i h3
        exact ⟨by simpa using h1, h2, by simpa using h3⟩
    · cases h

/-! The model -/

abbrev DkT.es (d : DkT) : List (Rec × Ob) := d.2.2.2.2
abbrev DkT.err (d : DkT) (s : ByteArray) : Int := errF d.2.2.2.1 d.2.2.2.2 s
def stp (d : DkT) (es' : List (Rec × Ob)) : DkT := (d.1, stSt d.2.2.1 d.2.1, stFu d.2.2.1, stDn d.2.2.1 d.2.2.2.1, es')
def fD (d : DkT) (s : ByteArray) : List Int := obD (obE d.2.2.2.2 [Fd.s s])
def fS (d : DkT) (s : ByteArray) : Int := obS (obE d.2.2.2.2 [Fd.s s])
def appendM (d : DkT) (s : ByteArray) (b : List Int) : Int × DkT :=
  if d.err s ≠ 0 ∧ d.err s ≠ 41 then (d.err s, d)
  else if d.err s = 41 ∧ 32 ≤ d.es.length then (43, d)
  else if 4194304 < (fD d s).length + b.length then (18, d)
  else (if stV d.2.2.1 = true then 0 else 2, stp d (setE d.es [Fd.s s] (fileOb (fD d s ++ b) (fS d s))))
def syncM (d : DkT) (s : ByteArray) : Int × DkT :=
  if d.err s ≠ 0 then (d.err s, d)
  else if d.1 - safeSum none d.es < ((fD d s).length : Int) - fS d s then (42, d)
  else if stV d.2.2.1 = true then (0, stp d (setE d.es [Fd.s s] (fileOb (fD d s) (fD d s).length))) else (2, stp d d.es)
def cutM (d : DkT) (s : ByteArray) (n : Int) : Int × DkT :=
  if d.err s ≠ 0 then (d.err s, d)
  else if n < 0 ∨ ((fD d s).length : Int) < n then (1, d)
  else if stV d.2.2.1 = true then (0, stp d (setE d.es [Fd.s s] (fileOb ((fD d s).take n.toNat) (if n < fS d s then n else fS d s)))) else (2, stp d d.es)
def moveM (d : DkT) (s t : ByteArray) : Int × DkT :=
  if d.err s ≠ 0 then (d.err s, d)
  else if rightB t = false then (40, d)
  else if stV d.2.2.1 = true then (0, stp d (setE (delE d.es [Fd.s s]) [Fd.s t] (fileOb (fD d s) (fS d s)))) else (2, stp d d.es)
def dropM (d : DkT) (s : ByteArray) : Int × DkT :=
  if d.err s ≠ 0 then (d.err s, d)
  else if stV d.2.2.1 = true then (0, stp d (delE d.es [Fd.s s])) else (2, stp d d.es)

/-- What the calls ask for. -/
def DkOK (d : DkT) : Prop := Okd d ∧ d.2.1 ≤ 4611686018427387904
theorem DkOK.step {d : DkT} (h : DkOK d) : StepOK d := ⟨⟨h.1.steps, h.2⟩, h.1.fuse⟩
theorem DkOK.stepE {d : DkT} (h : DkOK d) (es : List (Rec × Ob)) : StepOK (d.1, d.2.1, d.2.2.1, d.2.2.2.1, es) := ⟨⟨h.1.steps, h.2⟩, h.1.fuse⟩

/-! The contracts -/

def apRd (bs : List (BoxSt DF.τ)) : List (A0 DF.τ) → Option (DkT × ByteArray × List Int)
  | [.one (.ref 0 0), .one (.str s), .one (.words .u8 b)] => match dkRd bs with
    | some d => some (d, s, b)
    | none => none
  | _ => none
noncomputable def appendQ := mkF DF Try.f10.ntmps apRd (fun t => (dkBt t.1, [.one (.ref 0 0), .one (.str t.2.1), .one (.words .u8 t.2.2)]))
  (fun t => some (eV (appendM t.1 t.2.1 t.2.2).1, dkBt (appendM t.1 t.2.1 t.2.2).2, [DkOK t.1, t.2.1.size ≤ 9223372036854775807, t.2.2.length ≤ 4611686018427387904]))

theorem append_ok : OpOK Try.prog DF 10 appendQ := by
  refine opOK_mkG mixed Try.func10 (enters_of Try.func10 (by kernel_rfl) rfl) ?_
  rintro ⟨⟨ro, st, fu, dn, es⟩, s, b⟩ r' bs' ps h hps
  simp only [Option.some.injEq, Prod.mk.injEq] at h
  obtain ⟨rfl, rfl, rfl⟩ := h
  have hd : DkOK (ro, st, fu, dn, es) := hps (DkOK _) (by simp)
  have hs : s.size ≤ 9223372036854775807 := hps (s.size ≤ 9223372036854775807) (by simp)
  have hbl : b.length ≤ 4611686018427387904 := hps (b.length ≤ 4611686018427387904) (by simp)
  by_cases c0 : errF dn es s = 0
  · obtain ⟨e1, e2, e3⟩ := errF_ok c0
    have ho := hd.1.ob [Fd.s s]
    simp only at ho
    have hb := hd.1.back e3
    simp only at hb
    by_cases c1 : 4194304 < (obD (obE es [Fd.s s])).length + b.length
    · have hm : appendM (ro, st, fu, dn, es) s b = (18, (ro, st, fu, dn, es)) := by
        unfold appendM
        exact (if_neg (by simp [c0])).trans ((if_neg (by simp [c0])).trans (if_pos c1))
      rw [hm]
      exact ⟨_, _, _, gA0_ok, ap_big2 s b ro st fu _ dn es _ c0 hs ⟨by omega, by omega⟩ (decide_eq_true (by omega)) rfl rfl rfl hb⟩
    · have hm : appendM (ro, st, fu, dn, es) s b = (if stV fu = true then 0 else 2, stp (ro, st, fu, dn, es) (setE es [Fd.s s] (fileOb (fD (ro, st, fu, dn, es) s ++ b) (fS (ro, st, fu, dn, es) s)))) := by
        unfold appendM
        exact (if_neg (by simp [c0])).trans ((if_neg (by simp [c0])).trans (if_neg c1))
      rw [hm]
      by_cases c2 : stV fu = true
      · rw [if_pos c2]
        exact ⟨_, _, _, gA0_ok, ap_old1 s b ro st fu _ _ _ dn _ es _ c0 hs ⟨by omega, by omega⟩ (decide_eq_false (by omega)) (by omega) (by omega) c2 (hd.stepE _) rfl rfl rfl rfl rfl⟩
      · rw [if_neg c2]
        exact ⟨_, _, _, gA0_ok, ap_old0 s b ro st fu _ _ _ dn _ es _ c0 hs ⟨by omega, by omega⟩ (decide_eq_false (by omega)) (by omega) (by omega) (by simpa using c2) (hd.stepE _) rfl rfl rfl rfl rfl⟩
  by_cases c1 : errF dn es s = 41
  · obtain ⟨e1, e2, e3⟩ := errF_41 c1
    have hob := obE_none e3
    by_cases c2 : 32 ≤ es.length
    · have hm : appendM (ro, st, fu, dn, es) s b = (43, (ro, st, fu, dn, es)) := by
        unfold appendM
        exact (if_neg (by simp [c1])).trans (if_pos ⟨c1, c2⟩)
      rw [hm]
      exact ⟨_, _, _, gA1_ok, ap_many s b ro st fu _ dn es c0 hs (bne_iff_ne.2 c0) (by rw [c1]; rfl) (by rw [c1]; rfl) (decide_eq_true (by omega)) rfl⟩
    · have hw : IntKind.i64.wrap (4194304 - 0) = 4194304 := by decide
      have hl0 : (fD (ro, st, fu, dn, es) s).length = 0 := by unfold fD; simp only; rw [hob]; rfl
      by_cases c3 : 4194304 < b.length
      · have hm : appendM (ro, st, fu, dn, es) s b = (18, (ro, st, fu, dn, es)) := by
          unfold appendM
          exact (if_neg (by simp [c1])).trans ((if_neg (by simp [c2])).trans (if_pos (by rw [hl0]; omega)))
        rw [hm]
        exact ⟨_, _, _, gA1_ok, ap_big1 s b ro st fu _ dn es c0 hs (bne_iff_ne.2 c0) (by rw [c1]; rfl) (by rw [c1]; rfl) (decide_eq_false (by omega)) (decide_eq_true (by rw [hw]; omega)) rfl⟩
      · have hm : appendM (ro, st, fu, dn, es) s b = (if stV fu = true then 0 else 2, stp (ro, st, fu, dn, es) (setE es [Fd.s s] (fileOb (fD (ro, st, fu, dn, es) s ++ b) (fS (ro, st, fu, dn, es) s)))) := by
          unfold appendM
          exact (if_neg (by simp [c1])).trans ((if_neg (by simp [c2])).trans (if_neg (by rw [hl0]; omega)))
        have hes : setE es [Fd.s s] (Ob.node [Fd.w b, Fd.i 0] []) = setE es [Fd.s s] (fileOb (fD (ro, st, fu, dn, es) s ++ b) (fS (ro, st, fu, dn, es) s)) := by
          unfold fD fS
          simp only
          rw [hob]
          rfl
        rw [hm]
        by_cases c4 : stV fu = true
        · rw [if_pos c4]
          exact ⟨_, _, _, gA1_ok, ap_new1 s b ro st fu _ _ _ dn _ es _ c0 hs (bne_iff_ne.2 c0) (by rw [c1]; rfl) (by rw [c1]; rfl) (decide_eq_false (by omega)) (decide_eq_false (by rw [hw]; omega)) (by omega) (by omega) c4 (hd.stepE _) rfl rfl rfl rfl hes⟩
        · rw [if_neg c4]
          exact ⟨_, _, _, gA1_ok, ap_new0 s b ro st fu _ _ _ dn _ es _ c0 hs (bne_iff_ne.2 c0) (by rw [c1]; rfl) (by rw [c1]; rfl) (decide_eq_false (by omega)) (decide_eq_false (by rw [hw]; omega)) (by omega) (by omega) (by simpa using c4) (hd.stepE _) rfl rfl rfl rfl hes⟩
  · have hm : appendM (ro, st, fu, dn, es) s b = (errF dn es s, (ro, st, fu, dn, es)) := by
      unfold appendM
      exact if_pos ⟨c0, c1⟩
    rw [hm]
    exact ⟨_, _, _, gA1_ok, ap_bad s b ro st fu _ dn es c0 hs (bne_iff_ne.2 c0) (bne_iff_ne.2 c1) rfl⟩

noncomputable def syncQ := mkF DF Try.f12.ntmps fiRd fiPre (fun t => some (eV (syncM t.1 t.2).1, dkBt (syncM t.1 t.2).2, [DkOK t.1, t.2.size ≤ 9223372036854775807]))
theorem sync_ok : OpOK Try.prog DF 12 syncQ := by
  refine opOK_mkG mixed Try.func12 (enters_of Try.func12 (by kernel_rfl) rfl) ?_
  rintro ⟨⟨ro, st, fu, dn, es⟩, s⟩ r' bs' ps h hps
  simp only [Option.some.injEq, Prod.mk.injEq] at h
  obtain ⟨rfl, rfl, rfl⟩ := h
  have hd : DkOK (ro, st, fu, dn, es) := hps (DkOK _) (by simp)
  have hs : s.size ≤ 9223372036854775807 := hps (s.size ≤ 9223372036854775807) (by simp)
  by_cases c0 : errF dn es s = 0
  · obtain ⟨e1, e2, e3⟩ := errF_ok c0
    have ho := hd.1.ob [Fd.s s]
    have hb := hd.1.back e3
    obtain ⟨hf, hfs⟩ := hd.1.freeO [Fd.s s]
    simp only at ho hb hf hfs
    by_cases c1 : ro - safeSum none es < ((obD (obE es [Fd.s s])).length : Int) - obS (obE es [Fd.s s])
    · have hm : syncM (ro, st, fu, dn, es) s = (42, (ro, st, fu, dn, es)) := by
        unfold syncM
        exact (if_neg (by simp [c0])).trans (if_pos c1)
      rw [hm]
      exact ⟨_, _, _, gA0_ok, sy_full s ro st fu _ dn es _ c0 hs ⟨by omega, by omega⟩ hf (decide_eq_true (by rw [hfs]; omega)) rfl rfl rfl hb⟩
    · by_cases c2 : stV fu = true
      · have hm : syncM (ro, st, fu, dn, es) s = (0, stp (ro, st, fu, dn, es) (setE es [Fd.s s] (fileOb (fD (ro, st, fu, dn, es) s) (fD (ro, st, fu, dn, es) s).length))) := by
          unfold syncM
          exact (if_neg (by simp [c0])).trans ((if_neg c1).trans (if_pos c2))
        rw [hm]
        exact ⟨_, _, _, gA0_ok, sy_down s ro st fu _ _ _ dn _ es _ c0 hs ⟨by omega, by omega⟩ hf (decide_eq_false (by rw [hfs]; omega)) c2 hd.step rfl rfl rfl rfl rfl⟩
      · have hm : syncM (ro, st, fu, dn, es) s = (2, stp (ro, st, fu, dn, es) es) := by
          unfold syncM
          exact (if_neg (by simp [c0])).trans ((if_neg c1).trans (if_neg c2))
        rw [hm]
        exact ⟨_, _, _, gA0_ok, sy_ok s ro st fu _ _ _ dn _ es _ c0 hs ⟨by omega, by omega⟩ hf (decide_eq_false (by rw [hfs]; omega)) (by simpa using c2) hd.step rfl rfl rfl rfl rfl rfl hb⟩
  · have hm : syncM (ro, st, fu, dn, es) s = (errF dn es s, (ro, st, fu, dn, es)) := by
      unfold syncM
      exact if_pos c0
    rw [hm]
    exact ⟨_, _, _, gA1_ok, sy_bad s ro st fu _ dn es c0 hs (bne_iff_ne.2 c0) rfl⟩

def cuRd (bs : List (BoxSt DF.τ)) : List (A0 DF.τ) → Option (DkT × ByteArray × Int)
  | [.one (.ref 0 0), .one (.str s), .one (.int .i64 _ n)] => match dkRd bs with
    | some d => some (d, s, n)
    | none => none
  | _ => none
noncomputable def cutQ := mkF DF Try.f21.ntmps cuRd (fun t => (dkBt t.1, [.one (.ref 0 0), .one (.str t.2.1), .one (.int .i64 false t.2.2)]))
  (fun t => some (eV (cutM t.1 t.2.1 t.2.2).1, dkBt (cutM t.1 t.2.1 t.2.2).2, [DkOK t.1, t.2.1.size ≤ 9223372036854775807]))
theorem cut_ok : OpOK Try.prog DF 21 cutQ := by
  refine opOK_mkG mixed Try.func21 (enters_of Try.func21 (by kernel_rfl) rfl) ?_
  rintro ⟨⟨ro, st, fu, dn, es⟩, s, n⟩ r' bs' ps h hps
  simp only [Option.some.injEq, Prod.mk.injEq] at h
  obtain ⟨rfl, rfl, rfl⟩ := h
  have hd : DkOK (ro, st, fu, dn, es) := hps (DkOK _) (by simp)
  have hs : s.size ≤ 9223372036854775807 := hps (s.size ≤ 9223372036854775807) (by simp)
  by_cases c0 : errF dn es s = 0
  · obtain ⟨e1, e2, e3⟩ := errF_ok c0
    have hb := hd.1.back e3
    simp only at hb
    by_cases c1 : n < 0
    · have hm : cutM (ro, st, fu, dn, es) s n = (1, (ro, st, fu, dn, es)) := by
        unfold cutM
        exact (if_neg (by simp [c0])).trans (if_pos (Or.inl c1))
      rw [hm]
      exact ⟨_, _, _, gA0_ok, cu_neg s n ro st fu _ dn es _ c0 hs (decide_eq_true c1) rfl rfl rfl hb⟩
    by_cases c2 : ((obD (obE es [Fd.s s])).length : Int) < n
    · have hm : cutM (ro, st, fu, dn, es) s n = (1, (ro, st, fu, dn, es)) := by
        unfold cutM
        exact (if_neg (by simp [c0])).trans (if_pos (Or.inr c2))
      rw [hm]
      exact ⟨_, _, _, gA0_ok, cu_arg s n ro st fu _ dn es _ c0 hs (decide_eq_false c1) (decide_eq_true c2) rfl rfl rfl hb⟩
    by_cases c3 : stV fu = true
    · have hm : cutM (ro, st, fu, dn, es) s n = (0, stp (ro, st, fu, dn, es) (setE es [Fd.s s] (fileOb ((fD (ro, st, fu, dn, es) s).take n.toNat) (if n < fS (ro, st, fu, dn, es) s then n else fS (ro, st, fu, dn, es) s)))) := by
        unfold cutM
        exact (if_neg (by simp [c0])).trans ((if_neg (fun h => h.elim c1 c2)).trans (if_pos c3))
      rw [hm]
      exact ⟨_, _, _, gA0_ok, cu_down s n ro st fu _ _ _ dn _ es _ c0 hs (decide_eq_false c1) (decide_eq_false c2) c3 hd.step (by omega) (by omega) rfl rfl rfl rfl rfl⟩
    · have hm : cutM (ro, st, fu, dn, es) s n = (2, stp (ro, st, fu, dn, es) es) := by
        unfold cutM
        exact (if_neg (by simp [c0])).trans ((if_neg (fun h => h.elim c1 c2)).trans (if_neg c3))
      rw [hm]
      exact ⟨_, _, _, gA0_ok, cu_ok s n ro st fu _ _ _ dn _ es _ c0 hs (decide_eq_false c1) (decide_eq_false c2) (by simpa using c3) hd.step rfl rfl rfl rfl rfl rfl hb⟩
  · have hm : cutM (ro, st, fu, dn, es) s n = (errF dn es s, (ro, st, fu, dn, es)) := by
      unfold cutM
      exact if_pos c0
    rw [hm]
    exact ⟨_, _, _, gA1_ok, cu_bad s n ro st fu _ dn es c0 hs (bne_iff_ne.2 c0) rfl⟩

def mvRd (bs : List (BoxSt DF.τ)) : List (A0 DF.τ) → Option (DkT × ByteArray × ByteArray)
  | [.one (.ref 0 0), .one (.str s), .one (.str t)] => match dkRd bs with
    | some d => some (d, s, t)
    | none => none
  | _ => none
noncomputable def moveQ := mkF DF Try.f37.ntmps mvRd (fun t => (dkBt t.1, [.one (.ref 0 0), .one (.str t.2.1), .one (.str t.2.2)]))
  (fun t => some (eV (moveM t.1 t.2.1 t.2.2).1, dkBt (moveM t.1 t.2.1 t.2.2).2, [DkOK t.1, t.2.1.size ≤ 9223372036854775807, t.2.2.size ≤ 9223372036854775807]))
theorem move_ok : OpOK Try.prog DF 37 moveQ := by
  refine opOK_mkG mixed Try.func37 (enters_of Try.func37 (by kernel_rfl) rfl) ?_
  rintro ⟨⟨ro, st, fu, dn, es⟩, s, t⟩ r' bs' ps h hps
  simp only [Option.some.injEq, Prod.mk.injEq] at h
  obtain ⟨rfl, rfl, rfl⟩ := h
  have hd : DkOK (ro, st, fu, dn, es) := hps (DkOK _) (by simp)
  have hs : s.size ≤ 9223372036854775807 := hps (s.size ≤ 9223372036854775807) (by simp)
  have ht : t.size ≤ 9223372036854775807 := hps (t.size ≤ 9223372036854775807) (by simp)
  by_cases c0 : errF dn es s = 0
  · obtain ⟨e1, e2, e3⟩ := errF_ok c0
    have hb := hd.1.back e3
    simp only at hb
    by_cases c1 : rightB t = false
    · have hm : moveM (ro, st, fu, dn, es) s t = (40, (ro, st, fu, dn, es)) := by
        unfold moveM
        exact (if_neg (by simp [c0])).trans (if_pos c1)
      rw [hm]
      exact ⟨_, _, _, gA0_ok, mv_name s t ro st fu _ dn es _ c0 hs c1 ht rfl rfl rfl hb⟩
    by_cases c3 : stV fu = true
    · have hm : moveM (ro, st, fu, dn, es) s t = (0, stp (ro, st, fu, dn, es) (setE (delE es [Fd.s s]) [Fd.s t] (fileOb (fD (ro, st, fu, dn, es) s) (fS (ro, st, fu, dn, es) s)))) := by
        unfold moveM
        exact (if_neg (by simp [c0])).trans ((if_neg c1).trans (if_pos c3))
      rw [hm]
      exact ⟨_, _, _, gA0_ok, mv_down s t ro st fu _ _ _ dn _ es _ c0 hs (by simpa using c1) ht c3 hd.step keyT_str rfl rfl rfl rfl rfl rfl⟩
    · have hm : moveM (ro, st, fu, dn, es) s t = (2, stp (ro, st, fu, dn, es) es) := by
        unfold moveM
        exact (if_neg (by simp [c0])).trans ((if_neg c1).trans (if_neg c3))
      rw [hm]
      exact ⟨_, _, _, gA0_ok, mv_ok s t ro st fu _ _ _ dn _ es _ c0 hs (by simpa using c1) ht (by simpa using c3) hd.step rfl rfl rfl rfl rfl rfl hb⟩
  · have hm : moveM (ro, st, fu, dn, es) s t = (errF dn es s, (ro, st, fu, dn, es)) := by
      unfold moveM
      exact if_pos c0
    rw [hm]
    exact ⟨_, _, _, gA1_ok, mv_bad s t ro st fu _ dn es c0 hs (bne_iff_ne.2 c0) rfl⟩

noncomputable def dropQ := mkF DF Try.f20.ntmps fiRd fiPre (fun t => some (eV (dropM t.1 t.2).1, dkBt (dropM t.1 t.2).2, [DkOK t.1, t.2.size ≤ 9223372036854775807]))
theorem drop_ok : OpOK Try.prog DF 20 dropQ := by
  refine opOK_mkG mixed Try.func20 (enters_of Try.func20 (by kernel_rfl) rfl) ?_
  rintro ⟨⟨ro, st, fu, dn, es⟩, s⟩ r' bs' ps h hps
  simp only [Option.some.injEq, Prod.mk.injEq] at h
  obtain ⟨rfl, rfl, rfl⟩ := h
  have hd : DkOK (ro, st, fu, dn, es) := hps (DkOK _) (by simp)
  have hs : s.size ≤ 9223372036854775807 := hps (s.size ≤ 9223372036854775807) (by simp)
  by_cases c0 : errF dn es s = 0
  · obtain ⟨e1, e2, e3⟩ := errF_ok c0
    have hb := hd.1.back e3
    simp only at hb
    by_cases c3 : stV fu = true
    · have hm : dropM (ro, st, fu, dn, es) s = (0, stp (ro, st, fu, dn, es) (delE es [Fd.s s])) := by
        unfold dropM
        exact (if_neg (by simp [c0])).trans (if_pos c3)
      rw [hm]
      exact ⟨_, _, _, gA0_ok, dr_down s ro st fu _ _ _ dn _ es _ c0 hs c3 hd.step keyT_str rfl rfl rfl rfl rfl rfl⟩
    · have hm : dropM (ro, st, fu, dn, es) s = (2, stp (ro, st, fu, dn, es) es) := by
        unfold dropM
        exact (if_neg (by simp [c0])).trans (if_neg c3)
      rw [hm]
      exact ⟨_, _, _, gA0_ok, dr_ok s ro st fu _ _ _ dn _ es _ c0 hs (by simpa using c3) hd.step rfl rfl rfl rfl rfl rfl hb⟩
  · have hm : dropM (ro, st, fu, dn, es) s = (errF dn es s, (ro, st, fu, dn, es)) := by
      unfold dropM
      exact if_pos c0
    rw [hm]
    exact ⟨_, _, _, gA1_ok, dr_bad s ro st fu _ dn es c0 hs (bne_iff_ne.2 c0) rfl⟩

end Go.Num

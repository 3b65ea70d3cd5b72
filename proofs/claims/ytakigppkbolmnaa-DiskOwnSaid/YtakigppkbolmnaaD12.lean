/- Disk: Mount: the contract. -/
import Derived.Test.YtakigppkbolmnaaD11
namespace Go.Num
open Go.Abs Go.Proofs Go.Shelf Go.RowKit

def clampR (n : Int) : Int := if (4194304 < (if (0 > n) then 0 else n)) then 4194304 else (if (0 > n) then 0 else n)
theorem clampR_ok (n : Int) : 0 ≤ clampR n ∧ clampR n ≤ 4194304 := by
  unfold clampR
  split <;> split <;> omega

/-- Whether a file can be laid beside others, and what comes of it. -/
def moErr (es : List (Rec × Ob)) (r : Rec) : Int :=
  if rightB (recS r 0) = false then 40 else if hasE es [.s (recS r 0)] = true ∨ recI r 2 < 0 ∨ ((recW r 1).length : Int) < recI r 2 then 1 else 0
def moPut (es : List (Rec × Ob)) (r : Rec) : List (Rec × Ob) := setE es [.s (recS r 0)] (fileOb (recW r 1) (recI r 2))
def moGo : List Rec → List (Rec × Ob) → Int × List (Rec × Ob)
  | [], es => (0, es)
  | r :: rs, es => if moErr es r ≠ 0 then (moErr es r, es) else moGo rs (moPut es r)
def mountE (n : Int) (ll : List Rec) : Int :=
  if 32 < ll.length then 43 else if (moGo ll []).1 ≠ 0 then (moGo ll []).1 else if clampR n - safeSum none (moGo ll []).2 < 0 then 42 else 0
def mountM (n : Int) (ll : List Rec) : DkT := (clampR n, 0, 0, false, (moGo ll []).2)
/-- Texts and bytes that are no longer than what can be read. -/
def FilesOK (ll : List Rec) : Prop := ∀ r ∈ ll, (recS r 0).size ≤ 9223372036854775807 ∧ (recW r 1).length ≤ 140737488355328

/-- How far it goes well: the files ahead, the one at fault. -/
theorem moGo_cut : ∀ (ll : List Rec) (es : List (Rec × Ob)), ∃ k, k ≤ ll.length ∧ (∀ j, j < k → moErr ((ll.take j).foldl moPut es) (ll.getD j []) = 0) ∧
    ((k = ll.length ∧ moGo ll es = (0, ll.foldl moPut es)) ∨ (k < ll.length ∧ moErr ((ll.take k).foldl moPut es) (ll.getD k []) ≠ 0 ∧ (moGo ll es).1 = moErr ((ll.take k).foldl moPut es) (ll.getD k [])))
  | [], es => ⟨0, Nat.le_refl _, fun j hj => by omega, Or.inl ⟨rfl, rfl⟩⟩
  | r :: rs, es => by
    by_cases h : moErr es r = 0
    · obtain ⟨k, h1, h2, h3⟩ := moGo_cut rs (moPut es r)
      have hg : moGo (r :: rs) es = moGo rs (moPut es r) := by
        show (if moErr es r ≠ 0 then _ else _) = _
        rw [if_neg (by simp [h])]
      refine ⟨k + 1, by simpa using h1, fun j hj => ?_, ?_⟩
      · cases j with
        | zero => simpa using h
        | succ j => simpa using h2 j (by omega)
      · rcases h3 with ⟨q1, q2⟩ | ⟨q1, q2, q3⟩
        · left
          exact ⟨by simp [q1], by rw [hg, q2]; rfl⟩
        · right
          refine ⟨by simpa using q1, by simpa using q2, ?_⟩
          rw [hg, q3]
          simp
    · refine ⟨0, Nat.zero_le _, fun j hj => by omega, Or.inr ⟨by simp, by simpa using h, ?_⟩⟩
      show (if moErr es r ≠ 0 then _ else _ : Int × List (Rec × Ob)).1 = _
      rw [if_pos h]
      rfl

theorem moErr_0 {es : List (Rec × Ob)} {r : Rec} (h : moErr es r = 0) : rightB (recS r 0) = true ∧ hasE es [.s (recS r 0)] = false ∧ 0 ≤ recI r 2 ∧ recI r 2 ≤ ((recW r 1).length : Int) := by
  unfold moErr at h
  split at h
  · cases h
  · rename_i h1
    split at h
    · cases h
    · rename_i h2
      refine ⟨by simpa using h1, by cases hh : hasE es [.s (recS r 0)]; rfl; exact (h2 (Or.inl hh)).elim, Int.not_lt.1 (fun hh => h2 (Or.inr (Or.inl hh))), Int.not_lt.1 (fun hh => h2 (Or.inr (Or.inr hh)))⟩

/-- The files on the way: all but the room. -/
structure Mid (es : List (Rec × Ob)) (k : Nat) : Prop where
  keys : ∀ e ∈ es, ∃ s, e.1 = [Fd.s s] ∧ rightB s = true
  nodup : (es.map (·.1)).Nodup
  obs : ∀ e ∈ es, ObOK e.2
  len : es.length = k

theorem mid_put {es : List (Rec × Ob)} {k : Nat} (h : Mid es k) {r : Rec} (hr : moErr es r = 0) (hw : (recW r 1).length ≤ 140737488355328) : Mid (moPut es r) (k + 1) := by
  obtain ⟨h1, h2, h3, h4⟩ := moErr_0 hr
  unfold moPut
  rw [setE_keysN h2]
  refine ⟨fun e he => ?_, ?_, fun e he => ?_, ?_⟩
  · rcases List.mem_append.1 he with he | he
    · exact h.keys e he
    · rw [List.mem_singleton.1 he]
      exact ⟨_, rfl, h1⟩
  · rw [List.map_append, List.nodup_append]
    refine ⟨h.nodup, by simp, fun a ha b hb => ?_⟩
    simp only [List.map_cons, List.map_nil, List.mem_singleton] at hb
    subst hb
    intro e
    subst e
    rw [hasE_iff.2 ha] at h2
    cases h2
  · rcases List.mem_append.1 he with he | he
    · exact h.obs e he
    · rw [List.mem_singleton.1 he]
      exact ⟨_, _, rfl, h3, h4, hw⟩
  · rw [List.length_append, h.len]
    rfl

theorem mid_go {ll : List Rec} (hf : FilesOK ll) {k : Nat} (hk : k ≤ ll.length) (h : ∀ j, j < k → moErr ((ll.take j).foldl moPut []) (ll.getD j []) = 0) : ∀ j, j ≤ k → Mid ((ll.take j).foldl moPut []) j := by
  intro j
  induction j with
  | zero => exact fun _ => ⟨fun e he => by simp at he, by simp, fun e he => by simp at he, rfl⟩
  | succ j ih =>
    intro hj
    have hlt : j < ll.length := by omega
    have e1 : ll.getD j [] = ll[j] := by rw [List.getD_eq_getElem?_getD, List.getElem?_eq_getElem hlt]; rfl
    have e2 : (ll.take (j + 1)).foldl moPut [] = moPut ((ll.take j).foldl moPut []) (ll.getD j []) := by
      rw [List.take_add_one, List.getElem?_eq_getElem hlt, List.foldl_append, e1]
      rfl
    rw [e2]
    refine mid_put (ih (by omega)) (h j (by omega)) ?_
    rw [e1]
    exact (hf _ (List.getElem_mem hlt)).2

theorem mid_sum {es : List (Rec × Ob)} (h : ∀ e ∈ es, ObOK e.2) : 0 ≤ safeSum none es ∧ safeSum none es ≤ 140737488355328 * (es.length : Int) := by
  induction es with
  | nil => exact ⟨by decide, by decide⟩
  | cons e es ih =>
    obtain ⟨x, o⟩ := e
    obtain ⟨l, n, h1, h2, h3, h4⟩ := h _ (List.mem_cons_self ..)
    have hi := ih (fun e he => h e (List.mem_cons_of_mem _ he))
    rw [safeSum_cons, List.length_cons]
    simp only at h1
    have : obS o = n := by rw [h1]; rfl
    rw [this]
    omega

theorem gM_ok : GamOK Try.prog DF gM := gam_look (gam_op ne_ok (gam_cons right_ok (gam_cons clone_ok (gam_rd freeR_ok gam_nil))))
theorem gM1_ok : GamOK Try.prog DF gM1 := gam_op ne_ok (gam_cons right_ok (gam_cons clone_ok (gam_rd freeR_ok gam_nil)))

theorem mo_steps {ll : List Rec} (hf : FilesOK ll) (h32 : ll.length ≤ 32) (ro : Int) {k : Nat} (hk : k ≤ ll.length) (h : ∀ j, j < k → moErr ((ll.take j).foldl moPut []) (ll.getD j []) = 0) : ∀ j, j < k →
    ∃ fuel nid ds ps, stepPs Try.prog DF gM fuel (bodyN Try.f22 0) nid (moSn ll ro ((ll.take j).foldl moPut []) (j : Nat)).st ds .normal (moSn ll ro ((ll.take (j + 1)).foldl moPut []) ((j + 1 : Nat) : Int)) = some ps ∧ AllQ ps := by
  intro j hj
  have hlt : j < ll.length := by omega
  have e1 : ll.getD j [] = ll[j] := by rw [List.getD_eq_getElem?_getD, List.getElem?_eq_getElem hlt]; rfl
  have e2 : (ll.take (j + 1)).foldl moPut [] = moPut ((ll.take j).foldl moPut []) (ll.getD j []) := by
    rw [List.take_add_one, List.getElem?_eq_getElem hlt, List.foldl_append, e1]
    rfl
  obtain ⟨q1, q2⟩ := hf ll[j] (List.getElem_mem hlt)
  rw [← e1] at q1 q2
  obtain ⟨h1, h2, h3, h4⟩ := moErr_0 (h j hj)
  rw [e2]
  exact ⟨_, _, _, mo_step ll ro _ _ j _ (decide_eq_true (by omega)) (by omega) (by omega) h1 q1 keyT_str rfl h2 (decide_eq_false (Int.not_lt.2 h3)) (decide_eq_false (Int.not_lt.2 h4)) q2 ⟨by omega, by omega⟩ rfl rfl rfl (setE_twice ..)⟩

theorem mo_loop {ll : List Rec} (hf : FilesOK ll) (h32 : ll.length ≤ 32) (ro : Int) (h : (moGo ll []).1 = 0) :
    SumOK Try.prog DF (bodyN Try.f22 0) (loopL DF (moSn ll ro [] (0 : Nat)) (.exit 0) (moEnd ro (moGo ll []).2)) ∧ Mid (moGo ll []).2 ll.length := by
  obtain ⟨k, h1, h2, h3⟩ := moGo_cut ll []
  rcases h3 with ⟨q1, q2⟩ | ⟨q1, q2, q3⟩
  · subst q1
    rw [q2]
    have ht : (ll.take ll.length).foldl moPut [] = ll.foldl moPut [] := by rw [List.take_length]
    refine ⟨?_, ?_⟩
    · have := sum_loop gM_ok mixed (c := bodyN Try.f22 0) (fun j => moSn ll ro ((ll.take j).foldl moPut []) j) ll.length (e := .exit 0) (s := moEnd ro (ll.foldl moPut [])) rfl (fun j hj => mo_steps hf h32 ro h1 h2 j hj) (by
        rw [ht]
        exact ⟨_, _, _, mo_exit ll ro _ _ (decide_eq_false (by omega))⟩)
      exact this
    · have := mid_go hf h1 h2 ll.length (Nat.le_refl _)
      rw [ht] at this
      exact this
  · rw [h] at q3
    exact (q2 q3.symm).elim

theorem mo_loopB {ll : List Rec} (hf : FilesOK ll) (h32 : ll.length ≤ 32) (ro : Int) (h : (moGo ll []).1 ≠ 0) :
    SumOK Try.prog DF (bodyN Try.f22 0) (loopL DF (moSn ll ro [] (0 : Nat)) .ret (moBad (moGo ll []).1)) := by
  obtain ⟨k, h1, h2, h3⟩ := moGo_cut ll []
  rcases h3 with ⟨q1, q2⟩ | ⟨q1, q2, q3⟩
  · rw [q2] at h
    exact (h rfl).elim
  · have e1 : ll.getD k [] = ll[k] := by rw [List.getD_eq_getElem?_getD, List.getElem?_eq_getElem q1]; rfl
    obtain ⟨w1, w2⟩ := hf ll[k] (List.getElem_mem q1)
    rw [← e1] at w1 w2
    have hstep := mo_steps hf h32 ro h1 h2
    rw [q3]
    clear q3
    unfold moErr at q2 ⊢
    by_cases c1 : rightB (recS (ll.getD k []) 0) = false
    · rw [if_pos c1]
      exact sum_loop gM_ok mixed (c := bodyN Try.f22 0) (fun j => moSn ll ro ((ll.take j).foldl moPut []) j) k (e := .ret) rfl hstep ⟨_, _, _, mo_name ll ro _ _ k (decide_eq_true (by omega)) (by omega) (by omega) c1 w1 rfl⟩
    · rw [if_neg c1] at q2 ⊢
      have c1' : rightB (recS (ll.getD k []) 0) = true := by simpa using c1
      by_cases c2 : hasE ((ll.take k).foldl moPut []) [.s (recS (ll.getD k []) 0)] = true ∨ recI (ll.getD k []) 2 < 0 ∨ ((recW (ll.getD k []) 1).length : Int) < recI (ll.getD k []) 2
      · rw [if_pos c2]
        by_cases d1 : hasE ((ll.take k).foldl moPut []) [.s (recS (ll.getD k []) 0)] = true
        · have hx := sum_whileG (P := Try.prog) (D := DF) mixed (c := bodyN Try.f22 0) (fun j : Nat => moSn ll ro ((ll.take j).foldl moPut []) (j : Nat)) (fun j => if j < k then some (j + 1) else none) (fun j => j ≤ k) (fun j => k - j) (e := .ret) (s := moBad 1) rfl 0 (Nat.zero_le _)
            (fun x y hx hy => ?_) (fun z hz1 hz2 _ => ?_)
          · exact hx
          · split at hy
            · rename_i hxk
              cases hy
              obtain ⟨fuel, nid, ds, ps, hps⟩ := hstep x hxk
              exact ⟨by omega, by omega, _, fuel, nid, ds, ps, gM_ok, hps⟩
            · cases hy
          · have hzk : z = k := by
              split at hz2
              · cases hz2
              · omega
            subst hzk
            obtain ⟨ps, hps⟩ := mo_there ll ro 1 _ z (decide_eq_true (by omega)) (by omega) (by omega) c1' w1 keyT_str rfl d1 rfl
            exact ⟨_, _, _, _, ps, gM1_ok, hps⟩
        · have d1' : hasE ((ll.take k).foldl moPut []) [.s (recS (ll.getD k []) 0)] = false := by simpa using d1
          by_cases d2 : recI (ll.getD k []) 2 < 0
          · exact sum_loop gM_ok mixed (c := bodyN Try.f22 0) (fun j => moSn ll ro ((ll.take j).foldl moPut []) j) k (e := .ret) rfl hstep ⟨_, _, _, mo_neg ll ro _ _ k (decide_eq_true (by omega)) (by omega) (by omega) c1' w1 keyT_str rfl d1' (decide_eq_true d2) rfl⟩
          · have d3 : ((recW (ll.getD k []) 1).length : Int) < recI (ll.getD k []) 2 := by
              rcases c2 with c | c | c
              · exact (d1 c).elim
              · exact (d2 c).elim
              · exact c
            exact sum_loop gM_ok mixed (c := bodyN Try.f22 0) (fun j => moSn ll ro ((ll.take j).foldl moPut []) j) k (e := .ret) rfl hstep ⟨_, _, _, mo_more ll ro _ _ k (decide_eq_true (by omega)) (by omega) (by omega) c1' w1 keyT_str rfl d1' (decide_eq_false d2) (decide_eq_true d3) rfl⟩
      · rw [if_neg c2] at q2
        exact (q2 rfl).elim

def moRd : List (BoxSt DF.τ) → List (A0 DF.τ) → Option (Int × List Rec)
  | [], [.one (.int .i64 _ n), .one (.prs sh ll)] => bif shEq sh fSh then some (n, ll) else none
  | [], [.one (.int .i64 _ n), .one .nil] => some (n, [])
  | _, _ => none
def moPre (t : Int × List Rec) : List (BoxSt DF.τ) × List (A0 DF.τ) := ([], [.one (.int .i64 false t.1), .one (.prs fSh t.2)])
noncomputable def mountBadQ := mkF DF Try.f22.ntmps moRd moPre (fun t => some (.tup [.one .nilp, .one (.int .i64 false (mountE t.1 t.2))], [], [FilesOK t.2, mountE t.1 t.2 ≠ 0]))
noncomputable def mountOkQ := mkF DF Try.f22.ntmps moRd moPre (fun t => some (.tup [.one (.ref 0 0), .one (.int .i64 true 0)], dkBt (mountM t.1 t.2), [FilesOK t.2, mountE t.1 t.2 = 0]))

theorem mountE_ok {n : Int} {ll : List Rec} (h : mountE n ll = 0) : ll.length ≤ 32 ∧ (moGo ll []).1 = 0 ∧ 0 ≤ clampR n - safeSum none (moGo ll []).2 := by
  unfold mountE at h
  split at h
  · cases h
  · rename_i h1
    split at h
    · rename_i h2; exact (h2 h).elim
    · rename_i h2
      split at h
      · cases h
      · rename_i h3
        exact ⟨by omega, Classical.not_not.1 h2, by omega⟩

theorem mount_okd {n : Int} {ll : List Rec} (hf : FilesOK ll) (h : mountE n ll = 0) : Okd (mountM n ll) := by
  obtain ⟨h1, h2, h3⟩ := mountE_ok h
  obtain ⟨_, hm⟩ := mo_loop hf h1 (clampR n) h2
  exact ⟨hm.keys, hm.nodup, hm.obs, by show (moGo ll []).2.length ≤ 32; rw [hm.len]; exact h1, clampR_ok n, by show safeSum none (moGo ll []).2 ≤ clampR n; omega, Int.le_refl _, ⟨Int.le_refl _, (by decide : (0 : Int) ≤ 9223372036854775807)⟩⟩

theorem mid_free {es : List (Rec × Ob)} {k : Nat} (h : Mid es k) (hk : k ≤ 32) {ro : Int} (hr : 0 ≤ ro ∧ ro ≤ 4194304) : FreeOK none es ro := by
  have := mid_sum h.obs
  have hl := h.len
  refine ⟨fun e he => ?_, by omega, by omega, by omega⟩
  obtain ⟨l, n, h1, h2, _⟩ := h.obs e he
  show 0 ≤ obS e.2
  rw [h1]
  exact h2

theorem mountOk_ok : OpOK Try.prog DF 22 mountOkQ := by
  refine opOK_mk gM_ok mixed Try.func22 (enters_of Try.func22 (by kernel_rfl) rfl) ?_
  rintro ⟨n, ll⟩ r' bs' ps h hps
  simp only [Option.some.injEq, Prod.mk.injEq] at h
  obtain ⟨rfl, rfl, rfl⟩ := h
  have hf : FilesOK ll := hps (FilesOK ll) (by simp)
  have he : mountE n ll = 0 := hps (mountE n ll = 0) (by simp)
  obtain ⟨h1, h2, h3⟩ := mountE_ok he
  obtain ⟨hl, hm⟩ := mo_loop hf h1 (clampR n) h2
  exact ⟨_, _, mo_ok n (clampR n) ll _ (decide_eq_false (by omega)) hl rfl (mid_free hm h1 (clampR_ok n)) (decide_eq_false (Int.not_lt.2 h3))⟩

theorem mountBad_ok : OpOK Try.prog DF 22 mountBadQ := by
  refine opOK_mk gM_ok mixed Try.func22 (enters_of Try.func22 (by kernel_rfl) rfl) ?_
  rintro ⟨n, ll⟩ r' bs' ps h hps
  simp only [Option.some.injEq, Prod.mk.injEq] at h
  obtain ⟨rfl, rfl, rfl⟩ := h
  have hf : FilesOK ll := hps (FilesOK ll) (by simp)
  have he : mountE n ll ≠ 0 := hps (mountE n ll ≠ 0) (by simp)
  by_cases h1 : 32 < ll.length
  · exact ⟨_, _, mo_many n _ ll (decide_eq_true (by omega)) (if_pos h1).symm⟩
  by_cases h2 : (moGo ll []).1 = 0
  · obtain ⟨hl, hm⟩ := mo_loop hf (by omega) (clampR n) h2
    have h3 : clampR n - safeSum none (moGo ll []).2 < 0 := by
      apply Classical.byContradiction
      intro hh
      apply he
      unfold mountE
      rw [if_neg h1, if_neg (by simp [h2]), if_neg hh]
    refine ⟨_, _, mo_full n _ (clampR n) ll _ (decide_eq_false (by omega)) hl rfl (mid_free hm (by omega) (clampR_ok n)) (decide_eq_true (by omega)) ?_⟩
    unfold mountE
    rw [if_neg h1, if_neg (by simp [h2]), if_pos h3]
  · refine ⟨_, _, mo_bad n _ (clampR n) ll (decide_eq_false (by omega)) ?_ rfl⟩
    have : mountE n ll = (moGo ll []).1 := by
      unfold mountE
      rw [if_neg h1, if_pos h2]
    rw [this]
    exact mo_loopB hf (by omega) (clampR n) h2

end Go.Num

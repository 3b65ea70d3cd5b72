/- Several texts put together: R1 D15 Fl5 Fl6 Fl7 Fl8 Frame Glob D16 D17 FrD. -/
import Derived.Test.YtpjphlncockggaaDoorMrg10
import Derived.Test.YtpjphlncockggaaDoorRows
import Derived.WalkKit
import Derived.ProofKit
import Derived.OpenShut
import Derived.ShutString
import Derived.SizedLaws
import Derived.Carry
import Derived.Stop.LaidErr
import Derived.Lib.LaidTab
namespace Go.Num
open Go.Abs Go.Proofs Go.Shelf Go.RowKit
def canonR (r : Rec) : Rec := [.s (recS r 0), .w (recW r 1), .i (recI r 2)]
noncomputable def gS : Gam DF := [(13, .fn (sameD DF)), (9, .fz (copyD DF))]
theorem gS_ok : GamOK Tryd.prog DF gS := gam_cons (same_ok DF) (gam_fz (copy_ok DF) gam_nil)
def cpSn (x rs : List Rec) (k : Int) : Sn DF.τ where
  slots := [(0, .v (.one (.prs fSh x))), (3, .v (.one (.own 0))), (7, .v (.one (.int .i64 false x.length))), (8, .v (.one (.int .i64 false k)))]
  boxes := [(0, imB rs)]
  nt := 33
def cpEnd (rs : List Rec) : Sn DF.τ where
  slots := [(3, .v (.one (.own 0)))]
  boxes := [(0, imB rs)]
  nt := 33
theorem cp_step (x rs rs' : List Rec) (k k' : Int)
 (h1 : ((decide (k < (((List.length x) : Nat) : Int))) = true))
 (h2 : ((0 : Int) ≤ k))
 (h3 : (k < (((List.length x) : Nat) : Int)))
 (h4 : ((List.length (recW (List.getD x (Int.toNat k) ([] : List (Abs.Fd))) ((0 : Nat) + (1 : Nat)))) ≤ (281474976710656 : Nat)))
 (h5 : ((((List.length rs) + (1 : Nat)) * (48 : Nat)) ≤ (140737488355328 : Nat)))
 (h6 : (((List.length rs) + (1 : Nat)) ≤ (9223372036854775807 : Nat)))
 (h7 : (InI64 (k + (1 : Int))))
 (h8 : ((k + (1 : Int)) = k'))
 (h9 : ((rs ++ [[(Fd.s (recS (List.getD x (Int.toNat k) ([] : List (Abs.Fd))) (0 : Nat))), (Fd.w (recW (List.getD x (Int.toNat k) ([] : List (Abs.Fd))) ((0 : Nat) + (1 : Nat)))), (Fd.i (recI (List.getD x (Int.toNat k) ([] : List (Abs.Fd))) (((0 : Nat) + (1 : Nat)) + (1 : Nat))))]]) = rs')) :
 ∃ ps, stepPs Tryd.prog DF gS 100 (bodyN Tryd.f15 0) 100 (cpSn x rs k).st [.is true] .normal (cpSn x rs' k') = some ps ∧ AllQ ps := ⟨_, by kernel_rfl, allQ_cons h1 (allQ_cons h2 (allQ_cons h3 (allQ_cons h2 (allQ_cons h3 (allQ_cons h4 (allQ_cons h2 (allQ_cons h3 (allQ_cons h5 (allQ_cons h6 (allQ_cons h7 (allQ_cons (show (x = x) from rfl) (allQ_cons (show ((((List.length x) : Nat) : Int) = (((List.length x) : Nat) : Int)) from rfl) (allQ_cons h8 (allQ_cons h9 (allQ_nil)))))))))))))))⟩
theorem cp_exit (x rs : List Rec) (k : Int)
 (h1 : ((decide (k < (((List.length x) : Nat) : Int))) = false)) :
 ∃ ps, stepPs Tryd.prog DF gS 100 (bodyN Tryd.f15 0) 100 (cpSn x rs k).st [.is false] (.exit 0) (cpEnd rs) = some ps ∧ AllQ ps := ⟨_, by kernel_rfl, allQ_cons h1 (allQ_cons (show (rs = rs) from rfl) (allQ_nil))⟩
theorem cp_run (x rs : List Rec)
 (h1 : SumOK Tryd.prog DF (bodyN Tryd.f15 0) (loopL DF (cpSn x [] (0 : Nat)) (.exit 0) (cpEnd rs))) :
 ∃ ps, runO Tryd.prog DF gS 100 Tryd.f15 ([], [.one (.prs fSh x)]) [.loop (loopL DF (cpSn x [] (0 : Nat)) (.exit 0) (cpEnd rs))] (.v (.one (.own 0))) [imB rs] = some ps ∧ AllQ ps := ⟨_, by kernel_rfl, allQ_cons h1 (allQ_cons (show (x = x) from rfl) (allQ_cons (show ((((List.length x) : Nat) : Int) = (((List.length x) : Nat) : Int)) from rfl) (allQ_cons (show ((0 : Int) = (((0 : Nat) : Nat) : Int)) from by decide) (allQ_cons (show (([] : List (Rec)) = ([] : List (Rec))) from rfl) (allQ_cons (show (rs = rs) from rfl) (allQ_nil))))))⟩
def RowsOK (ll : List Rec) : Prop := ll.length ≤ 2932031007400 ∧ ∀ r ∈ ll, (recW r 1).length ≤ 140737488355328
theorem rows_at {ll : List Rec} (h : RowsOK ll) (k : Nat) : (recW (ll.getD k []) 1).length ≤ 140737488355328 := by
  by_cases hk : k < ll.length
  · rw [List.getD_eq_getElem?_getD, List.getElem?_eq_getElem hk]
    exact h.2 _ (List.getElem_mem hk)
  · rw [List.getD_eq_getElem?_getD, List.getElem?_eq_none (by omega)]
    exact Nat.zero_le _
def prsOf : Part DF.τ → Option (List Rec)
  | .prs sh ll => bif shEq sh fSh then some ll else none
  | .nil => some []
  | _ => none
noncomputable def copy17R := mkF DF Tryd.f15.ntmps (fun bs xs => match bs, xs with | [], [.one p] => prsOf p | _, _ => none) (fun x => ([], [.one (.prs fSh x)])) (fun x => some (.v (.one (.own 0)), [imB (x.map canonR)], [RowsOK x]))
theorem copy17_ok : OpOK Tryd.prog DF 15 (withNew copy17R) := by
  refine opOK_mkR mixed Tryd.func15 (enters_of Tryd.func15 (by kernel_rfl) rfl) (fun bs xs t h => by
    split at h
    · rfl
    · cases h) ?_
  intro x r' ns ps h hps
  simp only [Option.some.injEq, Prod.mk.injEq] at h
  obtain ⟨rfl, rfl, rfl⟩ := h
  have hx : RowsOK x := hps (RowsOK x) (by simp)
  have hx1 := hx.1
  refine ⟨_, _, _, gS_ok, cp_run x _ ?_⟩
  have := sum_loop gS_ok mixed (c := bodyN Tryd.f15 0) (fun k => cpSn x ((x.map canonR).take k) k) x.length (e := .exit 0) (s := cpEnd (x.map canonR)) rfl (fun k hk => ?_) ?_
  · exact this
  · have h1 := rows_at hx k
    have hg : (x.map canonR)[k]? = some (canonR (x.getD k [])) := by
      rw [List.getElem?_map, List.getD_eq_getElem?_getD, List.getElem?_eq_getElem hk]
      rfl
    have hl : ((x.map canonR).take k).length = k := by rw [List.length_take, List.length_map]; omega
    exact ⟨_, _, _, cp_step x _ _ k _ (decide_eq_true (by omega)) (by omega) (by omega) (by rw [Int.toNat_natCast]; exact Nat.le_trans h1 (by decide)) (by rw [hl]; omega) (by rw [hl]; omega) ⟨by omega, by omega⟩ rfl (by rw [List.take_add_one, hg]; rfl)⟩
  · have : (x.map canonR).take x.length = x.map canonR := List.take_of_length_le (by rw [List.length_map]; exact Nat.le_refl _)
    rw [this]
    exact ⟨_, _, _, cp_exit x _ _ (decide_eq_false (by omega))⟩
def FileIn (r : Rec) : Prop := (recS r 0).size ≤ 9223372036854775807 ∧ (recW r 1).length ≤ 140737488351232 ∧ InB (recW r 1) ∧ r = canonR r
end Go.Num
namespace Go.Num
open Go.Abs Go.Proofs Go.Shelf Go.RowKit
end Go.Num
namespace Go.Num
open Go.Abs Go.Proofs Go.Shelf Go.RowKit
def svEnd (d : DkT) (f : ByteArray) (e : Int) : Int × DkT := (e, if e ≠ 2 then (dropM d f).2 else d)
def sv1M (d : DkT) (f : ByteArray) : DkT := (dropM d f).2
def sv2M (d : DkT) (f : ByteArray) (l : List Int) : Int × DkT := appendM (sv1M d f) f (sealL l)
def sv3M (d : DkT) (f : ByteArray) (l : List Int) : Int × DkT := syncM (sv2M d f l).2 f
def sv4M (d : DkT) (f n : ByteArray) (l : List Int) : Int × DkT := moveM (sv3M d f l).2 f n
def saveM (d : DkT) (n : ByteArray) (l : List Int) : Int × DkT :=
  if rightB n = false ∨ 20 < n.size then (40, d)
  else if 65536 < l.length then (18, d)
  else if sv1E d (fnew n) ≠ 0 then svEnd (sv1M d (fnew n)) (fnew n) (sv1E d (fnew n))
  else if (sv2M d (fnew n) l).1 ≠ 0 then svEnd (sv2M d (fnew n) l).2 (fnew n) (sv2M d (fnew n) l).1
  else if (sv3M d (fnew n) l).1 ≠ 0 then svEnd (sv3M d (fnew n) l).2 (fnew n) (sv3M d (fnew n) l).1
  else if (sv4M d (fnew n) n l).1 ≠ 0 then svEnd (sv4M d (fnew n) n l).2 (fnew n) (sv4M d (fnew n) n l).1
  else (0, (sv4M d (fnew n) n l).2)
theorem sv1_ok {d : DkT} {m : Int} (h : OkN d m) (f : ByteArray) : OkN (sv1M d f) (m + 1) := h.nxt (drop_nxt h.1 f)
theorem sv2_ok {d : DkT} {m : Int} (h : OkN d m) (f : ByteArray) (l : List Int) : OkN (sv2M d f l).2 (m + 2) := by
  have := (sv1_ok h f).nxt (append_nxt (sv1_ok h f).1 f (sealL l))
  rwa [Int.add_assoc] at this
theorem sv3_ok {d : DkT} {m : Int} (h : OkN d m) (f : ByteArray) (l : List Int) : OkN (sv3M d f l).2 (m + 3) := by
  have := (sv2_ok h f l).nxt (sync_nxt (sv2_ok h f l).1 f)
  rwa [Int.add_assoc] at this
theorem sv4_ok {d : DkT} {m : Int} (h : OkN d m) (f n : ByteArray) (l : List Int) : OkN (sv4M d f n l).2 (m + 4) := by
  have := (sv3_ok h f l).nxt (move_nxt (sv3_ok h f l).1 f n)
  rwa [Int.add_assoc] at this
theorem svEnd_ok {d : DkT} {m : Int} (h : OkN d m) (f : ByteArray) (e : Int) : OkN (svEnd d f e).2 (m + 1) := by
  unfold svEnd
  simp only
  split
  · exact h.nxt (drop_nxt h.1 f)
  · exact ⟨h.1, by have := h.2; omega⟩
theorem OkN.le {d : DkT} {m m' : Int} (h : OkN d m) (hm : m ≤ m') : OkN d m' := ⟨h.1, Int.le_trans h.2 hm⟩
theorem save_ok {d : DkT} {m : Int} (h : OkN d m) (n : ByteArray) (l : List Int) : OkN (saveM d n l).2 (m + 5) := by
  unfold saveM
  repeat' split
  · exact h.le (by omega)
  · exact h.le (by omega)
  · exact (svEnd_ok (sv1_ok h _) _ _).le (by omega)
  · exact (svEnd_ok (sv2_ok h _ l) _ _).le (by omega)
  · exact (svEnd_ok (sv3_ok h _ l) _ _).le (by omega)
  · exact (svEnd_ok (sv4_ok h _ _ l) _ _).le (by omega)
  · exact (sv4_ok h _ _ l).le (by omega)
def svRd (bs : List (BoxSt DF.τ)) (xs : List (A0 DF.τ)) : Option (DkT × ByteArray × List Int) :=
  match xs with
  | [.one (.ref 0 0), .one (.str n), .one (.pw .u8 l)] => (dkRd bs).map fun d => (d, n, l)
  | _ => none
noncomputable def saveQ := mkF DF Tryd.f8.ntmps svRd (fun t => (dkBt t.1, svX t.2.1 t.2.2)) (fun t => some (eV (saveM t.1 t.2.1 t.2.2).1, dkBt (saveM t.1 t.2.1 t.2.2).2, [OkN t.1 4611686018427387000, t.2.1.size ≤ 9223372036854775000]))
theorem fnew_size (n : ByteArray) : (fnew n).size = n.size + 4 := by
  unfold fnew
  rw [ByteArray.size_append]
  rfl
theorem saveQ_ok : OpOK Tryd.prog DF 8 saveQ := by
  refine opOK_mk gSv_ok mixed Tryd.func8 (enters_of Tryd.func8 (by kernel_rfl) rfl) ?_
  rintro ⟨d, n, l⟩ r' bs' ps h hps
  simp only [Option.some.injEq, Prod.mk.injEq] at h
  obtain ⟨rfl, rfl, rfl⟩ := h
  have h0 : OkN d 4611686018427387000 := hps (OkN _ _) (by simp)
  have hs : n.size ≤ 9223372036854775000 := hps (n.size ≤ _) (by simp)
  have hs' : n.size ≤ 9223372036854775807 := by omega
  have hf : (fnew n).size ≤ 9223372036854775807 := by rw [fnew_size]; omega
  have hf' : (((n.size + 4 : Nat) : Int)) ≤ 9223372036854775807 := by omega
  have w1 : IntKind.i64.wrap (0 + 1) < 4 := by decide
  have w2 : IntKind.i64.wrap (IntKind.i64.wrap (0 + 1) + 1) < 4 := by decide
  have w3 : IntKind.i64.wrap (IntKind.i64.wrap (IntKind.i64.wrap (0 + 1) + 1) + 1) < 4 := by decide
  have d0 : DkOK d := h0.dk (by decide)
  have d1 : DkOK (dropM d (fnew n)).2 := (sv1_ok h0 (fnew n)).dk (by decide)
  have d2 : DkOK (appendM (dropM d (fnew n)).2 (fnew n) (sealL l)).2 := (sv2_ok h0 (fnew n) l).dk (by decide)
  have d3 : DkOK (syncM (appendM (dropM d (fnew n)).2 (fnew n) (sealL l)).2 (fnew n)).2 := (sv3_ok h0 (fnew n) l).dk (by decide)
  have d4 : DkOK (moveM (syncM (appendM (dropM d (fnew n)).2 (fnew n) (sealL l)).2 (fnew n)).2 (fnew n) n).2 := (sv4_ok h0 (fnew n) n l).dk (by decide)
  unfold saveM
  by_cases c0 : rightB n = false ∨ 20 < n.size
  · rw [if_pos c0]
    by_cases c1 : rightB n = false
    · exact ⟨_, _, sv_name n l d _ c1 hs' rfl⟩
    · exact ⟨_, _, sv_long n l d _ (by simpa using c1) hs' (decide_eq_true (by rcases c0 with h | h; exact absurd h c1; omega)) rfl⟩
  rw [if_neg c0]
  have cr : rightB n = true := by
    cases h : rightB n
    · exact absurd (.inl h) c0
    · rfl
  have cl : decide (((n.size : Nat) : Int) > 20) = false := decide_eq_false (fun h => c0 (.inr (by omega)))
  by_cases c2 : 65536 < l.length
  · rw [if_pos c2]
    exact ⟨_, _, sv_big n l d _ cr hs' cl (decide_eq_true (by omega)) rfl⟩
  rw [if_neg c2]
  have hl : l.length ≤ 65536 := by omega
  have cb : decide ((l.length : Int) > 65536) = false := decide_eq_false (by omega)
  by_cases e1 : sv1E d (fnew n) ≠ 0
  · rw [if_pos e1]
    unfold svEnd
    simp only
    by_cases q : sv1E d (fnew n) ≠ 2
    · rw [if_pos q]
      exact ⟨_, _, sv_e1 n l d _ cr hs' cl cb hf' (by decide) d0 hf (bne_iff_ne.2 e1) (bne_iff_ne.2 q) d1 rfl rfl rfl rfl rfl rfl⟩
    · rw [if_neg q]
      exact ⟨_, _, sv_d1 n l d _ cr hs' cl cb hf' (by decide) d0 hf (bne_iff_ne.2 e1) (Bool.eq_false_iff.2 (fun h => q (bne_iff_ne.1 h))) rfl rfl rfl rfl rfl rfl⟩
  rw [if_neg e1]
  have e1' : (sv1E d (fnew n) != 0) = false := Bool.eq_false_iff.2 (fun h => e1 (bne_iff_ne.1 h))
  by_cases e2 : (sv2M d (fnew n) l).1 ≠ 0
  · rw [if_pos e2]
    unfold svEnd
    simp only
    by_cases q : (sv2M d (fnew n) l).1 ≠ 2
    · rw [if_pos q]
      exact ⟨_, _, sv_e2 n l d _ cr hs' cl cb hf' (by decide) d0 hf e1' w1 d1 hl (bne_iff_ne.2 e2) (bne_iff_ne.2 q) d2 rfl rfl rfl rfl rfl rfl⟩
    · rw [if_neg q]
      exact ⟨_, _, sv_d2 n l d _ cr hs' cl cb hf' (by decide) d0 hf e1' w1 d1 hl (bne_iff_ne.2 e2) (Bool.eq_false_iff.2 (fun h => q (bne_iff_ne.1 h))) rfl rfl rfl rfl rfl rfl⟩
  rw [if_neg e2]
  have e2' : ((sv2M d (fnew n) l).1 != 0) = false := Bool.eq_false_iff.2 (fun h => e2 (bne_iff_ne.1 h))
  by_cases e3 : (sv3M d (fnew n) l).1 ≠ 0
  · rw [if_pos e3]
    unfold svEnd
    simp only
    by_cases q : (sv3M d (fnew n) l).1 ≠ 2
    · rw [if_pos q]
      exact ⟨_, _, sv_e3 n l d _ cr hs' cl cb hf' (by decide) d0 hf e1' w1 d1 hl e2' w2 d2 (bne_iff_ne.2 e3) (bne_iff_ne.2 q) d3 rfl rfl rfl rfl rfl rfl⟩
    · rw [if_neg q]
      exact ⟨_, _, sv_d3 n l d _ cr hs' cl cb hf' (by decide) d0 hf e1' w1 d1 hl e2' w2 d2 (bne_iff_ne.2 e3) (Bool.eq_false_iff.2 (fun h => q (bne_iff_ne.1 h))) rfl rfl rfl rfl rfl rfl⟩
  rw [if_neg e3]
  have e3' : ((sv3M d (fnew n) l).1 != 0) = false := Bool.eq_false_iff.2 (fun h => e3 (bne_iff_ne.1 h))
  by_cases e4 : (sv4M d (fnew n) n l).1 ≠ 0
  · rw [if_pos e4]
    unfold svEnd
    simp only
    by_cases q : (sv4M d (fnew n) n l).1 ≠ 2
    · rw [if_pos q]
      exact ⟨_, _, sv_e4 n l d _ cr hs' cl cb hf' (by decide) d0 hf e1' w1 d1 hl e2' w2 d2 e3' w3 d3 (bne_iff_ne.2 e4) (bne_iff_ne.2 q) d4 rfl rfl rfl rfl rfl rfl⟩
    · rw [if_neg q]
      exact ⟨_, _, sv_d4 n l d _ cr hs' cl cb hf' (by decide) d0 hf e1' w1 d1 hl e2' w2 d2 e3' w3 d3 (bne_iff_ne.2 e4) (Bool.eq_false_iff.2 (fun h => q (bne_iff_ne.1 h))) rfl rfl rfl rfl rfl rfl⟩
  rw [if_neg e4]
  have e4' : ((sv4M d (fnew n) n l).1 != 0) = false := Bool.eq_false_iff.2 (fun h => e4 (bne_iff_ne.1 h))
  exact ⟨_, _, sv_ok n l d _ cr hs' cl cb hf' (by decide) d0 hf e1' w1 d1 hl e2' w2 d2 e3' w3 d3 e4' rfl rfl rfl rfl rfl rfl⟩
def svnRd (bs : List (BoxSt DF.τ)) (xs : List (A0 DF.τ)) : Option ByteArray :=
  match bs, xs with
  | [], [.one .nilp, .one (.str n), .one .nil] => some n
  | _, _ => none
noncomputable def saveNilQ := mkF DF Tryd.f8.ntmps svnRd (fun n => ([], [.one .nilp, .one (.str n), .one .nil])) (fun _ => some (.v (.one (.int .i64 true 1)), [], []))
theorem saveNil_ok : OpOK Tryd.prog DF 8 saveNilQ := by
  refine opOK_mk gSv_ok mixed Tryd.func8 (enters_of Tryd.func8 (by kernel_rfl) rfl) ?_
  intro n r' bs' ps h hps
  simp only [Option.some.injEq, Prod.mk.injEq] at h
  obtain ⟨rfl, rfl, rfl⟩ := h
  exact ⟨_, _, sv_nil n⟩
noncomputable def loadHR (bs : List (BoxSt DF.τ)) (xs : List (A0 DF.τ)) : Option (AV DF.τ × List (BoxSt DF.τ) × List Prop) :=
  match reRd bs xs with
  | some t => bif Nat.beq t.2.size 1 then loadNoR bs xs else loadOkR bs xs
  | none => none
theorem loadH_ok : OpOK Tryd.prog DF 12 (withNew loadHR) := by
  intro bs xs r bs' ps h
  unfold withNew loadHR at h
  cases hr : reRd bs xs with
  | none => rw [hr] at h; cases h
  | some t =>
    rw [hr] at h
    cases hc : Nat.beq t.2.size 1 with
    | true =>
      simp only [hc, cond_true] at h
      exact loadNo_ok bs xs r bs' ps h
    | false =>
      simp only [hc, cond_false] at h
      exact loadOk_ok bs xs r bs' ps h
end Go.Num
namespace Go.Num
open Go.Abs Go.Proofs Go.Shelf Go.RowKit
noncomputable def gFh : Gam DF := [(7, .op [false] newQ), (8, .op [true, false, true] saveQ), (12, .rd [true, false] loadHR), (17, .rd [true] listR), (21, .rd [true] freeR)]
theorem gFh_ok : GamOK Tryd.prog DF gFh := gam_op new_ok (gam_op saveQ_ok (gam_rd loadH_ok (gam_rd list_ok (gam_rd freeR_ok gam_nil))))
abbrev fh_run_x1  := ((saveM ((clampR (1000 : Int)), ((0 : Int), ((0 : Int), (false, ([] : List (Rec × Ob)))))) (⟨#[118, 111, 116, 101]⟩ : ByteArray) ([(97 : Int), (98 : Int)] : List Int)))
theorem fh_run
 (h1 : (OkN ((clampR (1000 : Int)), ((0 : Int), ((0 : Int), (false, ([] : List (Rec × Ob)))))) (4611686018427387000 : Int)))
 (h2 : (((fh_run_x1 ).1 != (0 : Int)) = false))
 (h3 : (Okd (fh_run_x1 ).2))
 (h4 : (loadB (fh_run_x1 ).2 (⟨#[118, 111, 116, 101]⟩ : ByteArray)))
 (h5 : (¬ (loadB (fh_run_x1 ).2 (⟨#[120]⟩ : ByteArray))))
 (h6 : ((decide ((ByteArray.mk (Array.mk [(UInt8.ofBitVec (BitVec.ofFin (Fin.mk ((97 : Nat) % ((2 : Nat) ^ (8 : Nat))) (by decide)))), (UInt8.ofBitVec (BitVec.ofFin (Fin.mk ((98 : Nat) % ((2 : Nat) ^ (8 : Nat))) (by decide))))])) = (⟨#[97, 98]⟩ : ByteArray))) = true))
 (h7 : ((((loadM (fh_run_x1 ).2 (⟨#[120]⟩ : ByteArray))).1 == (0 : Int)) = true))
 (h8 : (((((List.length (listM (fh_run_x1 ).2)) : Nat) : Int) == (1 : Int)) = true))
 (h9 : (FreeOK (Option.none) (((((fh_run_x1 ).2).2).2).2).2 ((fh_run_x1 ).2).1))
 (h10 : (((((fh_run_x1 ).2).1 - (safeSum (Option.none) (((((fh_run_x1 ).2).2).2).2).2)) == (966 : Int)) = true)) :
 ∃ ps, runF Tryd.prog DF gFh 100 Tryd.f6 [] [.is false, .is true, .is true, .is true, .is true, .is true, .is true, .is true, .is true] = some ((AV.v (A0.one (Part.bool true true))), ps) ∧ AllQ ps := ⟨_, by kernel_rfl, allQ_cons (show ((1000 : Int) = (1000 : Int)) from rfl) (allQ_cons (show ((0 : Nat) < (2 : Nat)) from by decide) (allQ_cons (show ((⟨#[118, 111, 116, 101]⟩ : ByteArray) = (⟨#[118, 111, 116, 101]⟩ : ByteArray)) from rfl) (allQ_cons (show (([(97 : Int), (98 : Int)] : List Int) = ([(97 : Int), (98 : Int)] : List Int)) from rfl) (allQ_cons (show ((clampR (1000 : Int)) = (clampR (1000 : Int))) from rfl) (allQ_cons (show ((0 : Int) = (0 : Int)) from rfl) (allQ_cons (show ((0 : Int) = (0 : Int)) from rfl) (allQ_cons (show (false = false) from rfl) (allQ_cons (show (([] : List (Rec × Ob)) = ([] : List (Rec × Ob))) from rfl) (allQ_cons h1 (allQ_cons (show ((4 : Nat) ≤ (9223372036854775000 : Nat)) from by decide) (allQ_cons h2 (allQ_cons (show ((⟨#[118, 111, 116, 101]⟩ : ByteArray) = (⟨#[118, 111, 116, 101]⟩ : ByteArray)) from rfl) (allQ_cons (show (((fh_run_x1 ).2).1 = ((fh_run_x1 ).2).1) from rfl) (allQ_cons (show ((((fh_run_x1 ).2).2).1 = (((fh_run_x1 ).2).2).1) from rfl) (allQ_cons (show (((((fh_run_x1 ).2).2).2).1 = ((((fh_run_x1 ).2).2).2).1) from rfl) (allQ_cons (show ((((((fh_run_x1 ).2).2).2).2).1 = (((((fh_run_x1 ).2).2).2).2).1) from rfl) (allQ_cons (show ((((((fh_run_x1 ).2).2).2).2).2 = (((((fh_run_x1 ).2).2).2).2).2) from rfl) (allQ_cons h3 (allQ_cons (show ((4 : Nat) ≤ (9223372036854775807 : Nat)) from by decide) (allQ_cons h4 (allQ_cons (show ((⟨#[120]⟩ : ByteArray) = (⟨#[120]⟩ : ByteArray)) from rfl) (allQ_cons (show (((fh_run_x1 ).2).1 = ((fh_run_x1 ).2).1) from rfl) (allQ_cons (show ((((fh_run_x1 ).2).2).1 = (((fh_run_x1 ).2).2).1) from rfl) (allQ_cons (show (((((fh_run_x1 ).2).2).2).1 = ((((fh_run_x1 ).2).2).2).1) from rfl) (allQ_cons (show ((((((fh_run_x1 ).2).2).2).2).1 = (((((fh_run_x1 ).2).2).2).2).1) from rfl) (allQ_cons (show ((((((fh_run_x1 ).2).2).2).2).2 = (((((fh_run_x1 ).2).2).2).2).2) from rfl) (allQ_cons h3 (allQ_cons (show ((1 : Nat) ≤ (9223372036854775807 : Nat)) from by decide) (allQ_cons h5 (allQ_cons h6 (allQ_cons h7 (allQ_cons (show (((fh_run_x1 ).2).1 = ((fh_run_x1 ).2).1) from rfl) (allQ_cons (show ((((fh_run_x1 ).2).2).1 = (((fh_run_x1 ).2).2).1) from rfl) (allQ_cons (show (((((fh_run_x1 ).2).2).2).1 = ((((fh_run_x1 ).2).2).2).1) from rfl) (allQ_cons (show ((((((fh_run_x1 ).2).2).2).2).1 = (((((fh_run_x1 ).2).2).2).2).1) from rfl) (allQ_cons (show ((((((fh_run_x1 ).2).2).2).2).2 = (((((fh_run_x1 ).2).2).2).2).2) from rfl) (allQ_cons h3 (allQ_cons h8 (allQ_cons h9 (allQ_cons h10 (allQ_nil)))))))))))))))))))))))))))))))))))))))))⟩
def headFD : FnD DF
  | [] => some (.v (.one (.bool true true)), [])
  | _ => none
theorem seal_len (l : List Int) : (sealL l).length = 32 + l.length := by
  unfold sealL
  rw [List.length_append, List.length_append, ofF_len]
  rfl
theorem seal_take (l : List Int) : (sealL l).take 32 = ofF [l] := by
  unfold sealL
  rw [List.take_left' (ofF_len _)]
theorem seal_drop (l : List Int) : (sealL l).drop 32 = l := by
  unfold sealL
  rw [List.drop_left' (ofF_len _), List.append_nil]
theorem seal_load {d : DkT} {s : ByteArray} {l : List Int} (h : readM d s = (0, sealL l)) : loadB d s ∧ loadM d s = (0, l) := by
  have h3 : ofF [(sealL l).drop 32] = (sealL l).take 32 := by rw [seal_drop, seal_take]
  refine ⟨⟨by rw [h], by rw [h, seal_len]; omega, by rw [h]; exact h3⟩, ?_⟩
  unfold loadM
  rw [h, if_neg (show ¬ (0 : Int) = 41 by decide), if_neg (show ¬ (0 : Int) ≠ 0 by decide), if_neg (by rw [seal_len]; omega), if_neg (fun h => h h3), seal_drop]
def NameOK (n : ByteArray) : Prop := rightB n = true ∧ n.size ≤ 20 ∧ rightB (fnew n) = true ∧ n ≠ fnew n
theorem drop_gone {d : DkT} {s : ByteArray} (h : d.err s = 41) : dropM d s = (41, d) := by
  unfold dropM
  rw [if_pos (by rw [h]; decide), h]
theorem sv1_gone {d : DkT} {f : ByteArray} (h : d.err f = 41) : sv1E d f = 0 ∧ sv1M d f = d := by
  unfold sv1E sv1M
  rw [drop_gone h]
  exact ⟨rfl, rfl⟩
theorem stV0 : stV 0 = true := rfl
theorem save_new {ro st : Int} {n : ByteArray} {l : List Int} (hn : NameOK n) (hl : l.length ≤ 65536) :
    saveM (ro, st, 0, false, []) n l = if ro < ((sealL l).length : Int) then (42, (ro, st + 2, 0, false, [])) else (0, (ro, st + 3, 0, false, one n (sealL l) (sealL l).length)) := by
  obtain ⟨h1, h2, h3, h4⟩ := hn
  have hlen := seal_len l
  have g := sv1_gone (d := (ro, st, 0, false, [])) (f := fnew n) (err_nil h3)
  have e2 : sv2M (ro, st, 0, false, []) (fnew n) l = (0, (ro, st + 1, 0, false, one (fnew n) (sealL l) 0)) := by
    unfold sv2M
    rw [g.2, app_nil h3 (by omega)]
    rfl
  unfold saveM
  rw [if_neg (by rw [h1]; rintro (h | h); cases h; omega), if_neg (by omega), if_neg (by rw [g.1]; decide), e2]
  simp only [ne_eq, not_true_eq_false, if_false]
  have e3 : sv3M (ro, st, 0, false, []) (fnew n) l = if ro < ((sealL l).length : Int) then (42, (ro, st + 1, 0, false, one (fnew n) (sealL l) 0)) else (0, (ro, st + 2, 0, false, one (fnew n) (sealL l) (sealL l).length)) := by
    unfold sv3M
    rw [e2]
    simp only
    by_cases c : ro < ((sealL l).length : Int)
    · rw [if_pos c]
      unfold syncM
      have he : DkT.err (ro, st + 1, 0, false, one (fnew n) (sealL l) 0) (fnew n) = 0 := err_one h3
      rw [if_neg (by rw [he]; decide)]
      refine if_pos ?_
      show ro - safeSum none (one (fnew n) (sealL l) 0) < _
      rw [safe_one]
      show ro - 0 < ((obD (obE (one (fnew n) (sealL l) 0) [Fd.s (fnew n)])).length : Int) - obS (obE (one (fnew n) (sealL l) 0) [Fd.s (fnew n)])
      rw [ob_one]
      show ro - 0 < ((sealL l).length : Int) - 0
      omega
    · rw [if_neg c, sync_one h3 (by omega)]
      rw [if_pos stV0]
      have : st + 1 + 1 = st + 2 := by omega
      show (_, (ro, st + 1 + 1, 0, false, _)) = _
      rw [this]
  by_cases c : ro < ((sealL l).length : Int)
  · rw [if_pos c] at e3
    rw [e3, if_pos c]
    simp only [if_true, if_false, show ((42 : Int) = 0) = False from by decide, not_false_eq_true]
    unfold svEnd
    rw [if_pos (by decide)]
    have hd : dropM (ro, st + 1, 0, false, one (fnew n) (sealL l) 0) (fnew n) = (0, (ro, st + 2, 0, false, [])) := by
      unfold dropM
      have he : DkT.err (ro, st + 1, 0, false, one (fnew n) (sealL l) 0) (fnew n) = 0 := err_one h3
      rw [if_neg (by rw [he]; decide)]
      rw [if_pos stV0]
      have : st + 1 + 1 = st + 2 := by omega
      show (_, (ro, st + 1 + 1, 0, false, delE (one (fnew n) (sealL l) 0) [Fd.s (fnew n)])) = _
      rw [this]
      simp [one, delE]
    rw [hd]
  · rw [if_neg c] at e3
    rw [e3, if_neg c]
    simp only [if_true, if_false, not_true_eq_false]
    have e4 : sv4M (ro, st, 0, false, []) (fnew n) n l = (0, (ro, st + 3, 0, false, one n (sealL l) (sealL l).length)) := by
      unfold sv4M moveM
      rw [e3]
      have he : DkT.err (ro, st + 2, 0, false, one (fnew n) (sealL l) (sealL l).length) (fnew n) = 0 := err_one h3
      simp only
      rw [if_neg (by rw [he]; decide), if_neg (by rw [h1]; decide), if_pos stV0]
      have : st + 2 + 1 = st + 3 := by omega
      show (_, (ro, st + 2 + 1, 0, false, setE (delE (one (fnew n) (sealL l) (sealL l).length) [Fd.s (fnew n)]) [Fd.s n] (fileOb (obD (obE (one (fnew n) (sealL l) (sealL l).length) [Fd.s (fnew n)])) (obS (obE (one (fnew n) (sealL l) (sealL l).length) [Fd.s (fnew n)]))))) = _
      rw [this, ob_one]
      simp [one, delE, setE, obD, obS, fileOb, recW, recI]
    rw [e4]
    simp
end Go.Num
namespace Go.Num
open Go.Abs Go.Proofs Go.Shelf Go.RowKit
noncomputable def gFlB : Gam DF := [(freezeId, .fn (freezeD DF [16, 43])), (6, .fn headFD), (15, .rd [false] copy17R), (11, .op [false, false] mountBadQ), (12, .op [false, false] loadNilQ), (8, .op [false, false, true] saveNilQ)]
noncomputable def gFlN : Gam DF := [(freezeId, .fn (freezeD DF [16, 43])), (6, .fn headFD), (15, .rd [false] copy17R), (11, .op [false, false] mountOkQ), (12, .rd [true, false] loadNoR), (16, .rd [true, false] readR), (14, .fn rfD), (13, .fn (sameD DF))]
noncomputable def gFlO : Gam DF := [(freezeId, .fn (freezeD DF [16, 43])), (6, .fn headFD), (15, .rd [false] copy17R), (11, .op [false, false] mountOkQ), (12, .rd [true, false] loadOkR), (16, .rd [true, false] readR), (14, .fn rfD), (13, .fn (sameD DF))]
theorem fl_bad (x : List Rec) (n : ByteArray)
 (h1 : (RowsOK x))
 (h2 : (FilesOK (List.map (canonR) x)))
 (h3 : ((mountE (4194304 : Int) (List.map (canonR) x)) ≠ (0 : Int))) :
 ∃ ps, runF Tryd.prog DF gFlB 100 Tryd.f4 [.one (.prs fSh x), .one (.str n)] [] = some ((AV.v (A0.one (Part.bool (true && true) ((1 : Int) == (1 : Int))))), ps) ∧ AllQ ps := ⟨_, by kernel_rfl, allQ_cons (show (x = x) from rfl) (allQ_cons h1 (allQ_cons (show ((4194304 : Int) = (4194304 : Int)) from rfl) (allQ_cons (show ((List.map (canonR) x) = (List.map (canonR) x)) from rfl) (allQ_cons h2 (allQ_cons h3 (allQ_cons (show (n = n) from rfl) (allQ_cons (show ((⟨#[97]⟩ : ByteArray) = (⟨#[97]⟩ : ByteArray)) from rfl) (allQ_nil))))))))⟩
abbrev fl_gone_x1 (x : List Rec) := (((mountM (4194304 : Int) (List.map (canonR) x))).2).2
theorem fl_gone (x : List Rec) (n : ByteArray)
 (h1 : (RowsOK x))
 (h2 : (FilesOK (List.map (canonR) x)))
 (h3 : ((mountE (4194304 : Int) (List.map (canonR) x)) = (0 : Int)))
 (h4 : (Okd (mountM (4194304 : Int) (List.map (canonR) x))))
 (h5 : ((ByteArray.size n) ≤ (9223372036854775807 : Nat)))
 (h6 : (¬ (loadB (mountM (4194304 : Int) (List.map (canonR) x)) n)))
 (h7 : ((((readM (mountM (4194304 : Int) (List.map (canonR) x)) n)).1 == (41 : Int)) = true))
 (h8 : ((((loadM (mountM (4194304 : Int) (List.map (canonR) x)) n)).1 == (0 : Int)) = true)) :
 ∃ ps, runF Tryd.prog DF gFlN 100 Tryd.f4 [.one (.prs fSh x), .one (.str n)] [.is true, .is true] = some ((AV.v (A0.one (Part.bool true true))), ps) ∧ AllQ ps := ⟨_, by kernel_rfl, allQ_cons (show (x = x) from rfl) (allQ_cons h1 (allQ_cons (show ((4194304 : Int) = (4194304 : Int)) from rfl) (allQ_cons (show ((List.map (canonR) x) = (List.map (canonR) x)) from rfl) (allQ_cons h2 (allQ_cons h3 (allQ_cons (show (n = n) from rfl) (allQ_cons (show (((mountM (4194304 : Int) (List.map (canonR) x))).1 = ((mountM (4194304 : Int) (List.map (canonR) x))).1) from rfl) (allQ_cons (show ((((mountM (4194304 : Int) (List.map (canonR) x))).2).1 = (((mountM (4194304 : Int) (List.map (canonR) x))).2).1) from rfl) (allQ_cons (show ((fl_gone_x1 x).1 = (fl_gone_x1 x).1) from rfl) (allQ_cons (show (((fl_gone_x1 x).2).1 = ((fl_gone_x1 x).2).1) from rfl) (allQ_cons (show (((fl_gone_x1 x).2).2 = ((fl_gone_x1 x).2).2) from rfl) (allQ_cons h4 (allQ_cons h5 (allQ_cons h6 (allQ_cons (show (n = n) from rfl) (allQ_cons (show (((mountM (4194304 : Int) (List.map (canonR) x))).1 = ((mountM (4194304 : Int) (List.map (canonR) x))).1) from rfl) (allQ_cons (show ((((mountM (4194304 : Int) (List.map (canonR) x))).2).1 = (((mountM (4194304 : Int) (List.map (canonR) x))).2).1) from rfl) (allQ_cons (show ((fl_gone_x1 x).1 = (fl_gone_x1 x).1) from rfl) (allQ_cons (show (((fl_gone_x1 x).2).1 = ((fl_gone_x1 x).2).1) from rfl) (allQ_cons (show (((fl_gone_x1 x).2).2 = ((fl_gone_x1 x).2).2) from rfl) (allQ_cons h4 (allQ_cons h5 (allQ_cons h7 (allQ_cons h8 (allQ_nil)))))))))))))))))))))))))⟩
abbrev fl_err_x1 (x : List Rec) := (((mountM (4194304 : Int) (List.map (canonR) x))).2).2
theorem fl_err (x : List Rec) (n : ByteArray)
 (h1 : (RowsOK x))
 (h2 : (FilesOK (List.map (canonR) x)))
 (h3 : ((mountE (4194304 : Int) (List.map (canonR) x)) = (0 : Int)))
 (h4 : (Okd (mountM (4194304 : Int) (List.map (canonR) x))))
 (h5 : ((ByteArray.size n) ≤ (9223372036854775807 : Nat)))
 (h6 : (¬ (loadB (mountM (4194304 : Int) (List.map (canonR) x)) n)))
 (h7 : ((((readM (mountM (4194304 : Int) (List.map (canonR) x)) n)).1 == (41 : Int)) = false))
 (h8 : ((((readM (mountM (4194304 : Int) (List.map (canonR) x)) n)).1 != (0 : Int)) = true))
 (h9 : ((((loadM (mountM (4194304 : Int) (List.map (canonR) x)) n)).1 == ((readM (mountM (4194304 : Int) (List.map (canonR) x)) n)).1) = true)) :
 ∃ ps, runF Tryd.prog DF gFlN 100 Tryd.f4 [.one (.prs fSh x), .one (.str n)] [.is false, .is true, .is true] = some ((AV.v (A0.one (Part.bool true true))), ps) ∧ AllQ ps := ⟨_, by kernel_rfl, allQ_cons (show (x = x) from rfl) (allQ_cons h1 (allQ_cons (show ((4194304 : Int) = (4194304 : Int)) from rfl) (allQ_cons (show ((List.map (canonR) x) = (List.map (canonR) x)) from rfl) (allQ_cons h2 (allQ_cons h3 (allQ_cons (show (n = n) from rfl) (allQ_cons (show (((mountM (4194304 : Int) (List.map (canonR) x))).1 = ((mountM (4194304 : Int) (List.map (canonR) x))).1) from rfl) (allQ_cons (show ((((mountM (4194304 : Int) (List.map (canonR) x))).2).1 = (((mountM (4194304 : Int) (List.map (canonR) x))).2).1) from rfl) (allQ_cons (show ((fl_err_x1 x).1 = (fl_err_x1 x).1) from rfl) (allQ_cons (show (((fl_err_x1 x).2).1 = ((fl_err_x1 x).2).1) from rfl) (allQ_cons (show (((fl_err_x1 x).2).2 = ((fl_err_x1 x).2).2) from rfl) (allQ_cons h4 (allQ_cons h5 (allQ_cons h6 (allQ_cons (show (n = n) from rfl) (allQ_cons (show (((mountM (4194304 : Int) (List.map (canonR) x))).1 = ((mountM (4194304 : Int) (List.map (canonR) x))).1) from rfl) (allQ_cons (show ((((mountM (4194304 : Int) (List.map (canonR) x))).2).1 = (((mountM (4194304 : Int) (List.map (canonR) x))).2).1) from rfl) (allQ_cons (show ((fl_err_x1 x).1 = (fl_err_x1 x).1) from rfl) (allQ_cons (show (((fl_err_x1 x).2).1 = ((fl_err_x1 x).2).1) from rfl) (allQ_cons (show (((fl_err_x1 x).2).2 = ((fl_err_x1 x).2).2) from rfl) (allQ_cons h4 (allQ_cons h5 (allQ_cons h7 (allQ_cons h8 (allQ_cons h9 (allQ_nil))))))))))))))))))))))))))⟩
abbrev fl_short_x1 (x : List Rec) := (((mountM (4194304 : Int) (List.map (canonR) x))).2).2
theorem fl_short (x : List Rec) (n : ByteArray)
 (h1 : (RowsOK x))
 (h2 : (FilesOK (List.map (canonR) x)))
 (h3 : ((mountE (4194304 : Int) (List.map (canonR) x)) = (0 : Int)))
 (h4 : (Okd (mountM (4194304 : Int) (List.map (canonR) x))))
 (h5 : ((ByteArray.size n) ≤ (9223372036854775807 : Nat)))
 (h6 : (¬ (loadB (mountM (4194304 : Int) (List.map (canonR) x)) n)))
 (h7 : ((((readM (mountM (4194304 : Int) (List.map (canonR) x)) n)).1 == (41 : Int)) = false))
 (h8 : ((((readM (mountM (4194304 : Int) (List.map (canonR) x)) n)).1 != (0 : Int)) = false))
 (h9 : ((decide ((((List.length ((readM (mountM (4194304 : Int) (List.map (canonR) x)) n)).2) : Nat) : Int) < (32 : Int))) = true))
 (h10 : ((((loadM (mountM (4194304 : Int) (List.map (canonR) x)) n)).1 == (44 : Int)) = true)) :
 ∃ ps, runF Tryd.prog DF gFlN 100 Tryd.f4 [.one (.prs fSh x), .one (.str n)] [.is false, .is false, .is true, .is true, .is true] = some ((AV.v (A0.one (Part.bool (true && true) ((0 : Int) == (0 : Int))))), ps) ∧ AllQ ps := ⟨_, by kernel_rfl, allQ_cons (show (x = x) from rfl) (allQ_cons h1 (allQ_cons (show ((4194304 : Int) = (4194304 : Int)) from rfl) (allQ_cons (show ((List.map (canonR) x) = (List.map (canonR) x)) from rfl) (allQ_cons h2 (allQ_cons h3 (allQ_cons (show (n = n) from rfl) (allQ_cons (show (((mountM (4194304 : Int) (List.map (canonR) x))).1 = ((mountM (4194304 : Int) (List.map (canonR) x))).1) from rfl) (allQ_cons (show ((((mountM (4194304 : Int) (List.map (canonR) x))).2).1 = (((mountM (4194304 : Int) (List.map (canonR) x))).2).1) from rfl) (allQ_cons (show ((fl_short_x1 x).1 = (fl_short_x1 x).1) from rfl) (allQ_cons (show (((fl_short_x1 x).2).1 = ((fl_short_x1 x).2).1) from rfl) (allQ_cons (show (((fl_short_x1 x).2).2 = ((fl_short_x1 x).2).2) from rfl) (allQ_cons h4 (allQ_cons h5 (allQ_cons h6 (allQ_cons (show (n = n) from rfl) (allQ_cons (show (((mountM (4194304 : Int) (List.map (canonR) x))).1 = ((mountM (4194304 : Int) (List.map (canonR) x))).1) from rfl) (allQ_cons (show ((((mountM (4194304 : Int) (List.map (canonR) x))).2).1 = (((mountM (4194304 : Int) (List.map (canonR) x))).2).1) from rfl) (allQ_cons (show ((fl_short_x1 x).1 = (fl_short_x1 x).1) from rfl) (allQ_cons (show (((fl_short_x1 x).2).1 = ((fl_short_x1 x).2).1) from rfl) (allQ_cons (show (((fl_short_x1 x).2).2 = ((fl_short_x1 x).2).2) from rfl) (allQ_cons h4 (allQ_cons h5 (allQ_cons h7 (allQ_cons h8 (allQ_cons h9 (allQ_cons h10 (allQ_nil)))))))))))))))))))))))))))⟩
theorem fl_sum (x : List Rec) (n : ByteArray)
 (h1 : (RowsOK x))
 (h2 : (FilesOK (List.map (canonR) x)))
 (h3 : ((mountE (4194304 : Int) (List.map (canonR) x)) = (0 : Int)))
 (h4 : (Okd (mountM (4194304 : Int) (List.map (canonR) x))))
 (h5 : ((ByteArray.size n) ≤ (9223372036854775807 : Nat)))
 (h6 : (¬ (loadB (mountM (4194304 : Int) (List.map (canonR) x)) n)))
 (h7 : ((((readM (mountM (4194304 : Int) (List.map (canonR) x)) n)).1 == (41 : Int)) = false))
 (h8 : ((((readM (mountM (4194304 : Int) (List.map (canonR) x)) n)).1 != (0 : Int)) = false))
 (h9 : ((decide ((((List.length ((readM (mountM (4194304 : Int) (List.map (canonR) x)) n)).2) : Nat) : Int) < (32 : Int))) = false))
 (h10 : ((32 : Int) ≤ (((List.length ((readM (mountM (4194304 : Int) (List.map (canonR) x)) n)).2) : Nat) : Int)))
 (h11 : ((((List.length ((readM (mountM (4194304 : Int) (List.map (canonR) x)) n)).2) : Nat) : Int) ≤ (((List.length ((readM (mountM (4194304 : Int) (List.map (canonR) x)) n)).2) : Nat) : Int)))
 (h12 : ((List.length (List.drop (32 : Nat) (List.take (Int.toNat (((List.length ((readM (mountM (4194304 : Int) (List.map (canonR) x)) n)).2) : Nat) : Int)) ((readM (mountM (4194304 : Int) (List.map (canonR) x)) n)).2))) ≤ (140737488351232 : Nat)))
 (h13 : ((decide ((List.drop (0 : Nat) (List.take (32 : Nat) ((readM (mountM (4194304 : Int) (List.map (canonR) x)) n)).2)) = (rfSum (List.drop (32 : Nat) (List.take (Int.toNat (((List.length ((readM (mountM (4194304 : Int) (List.map (canonR) x)) n)).2) : Nat) : Int)) ((readM (mountM (4194304 : Int) (List.map (canonR) x)) n)).2))))) = false))
 (h14 : ((List.length (List.drop (0 : Nat) (List.take (32 : Nat) ((readM (mountM (4194304 : Int) (List.map (canonR) x)) n)).2))) ≤ (9223372036854775807 : Nat)))
 (h15 : ((List.length (rfSum (List.drop (32 : Nat) (List.take (Int.toNat (((List.length ((readM (mountM (4194304 : Int) (List.map (canonR) x)) n)).2) : Nat) : Int)) ((readM (mountM (4194304 : Int) (List.map (canonR) x)) n)).2)))) ≤ (9223372036854775807 : Nat)))
 (h16 : ((((loadM (mountM (4194304 : Int) (List.map (canonR) x)) n)).1 == (44 : Int)) = true)) :
 ∃ ps, runF Tryd.prog DF gFlN 100 Tryd.f4 [.one (.prs fSh x), .one (.str n)] [.is false, .is false, .is false, .is false, .is true, .is true] = some ((AV.v (A0.one (Part.bool (true && true) ((0 : Int) == (0 : Int))))), ps) ∧ AllQ ps := ⟨_, by kernel_rfl, allQ_cons (show (x = x) from rfl) (allQ_cons h1 (allQ_cons (show ((4194304 : Int) = (4194304 : Int)) from rfl) (allQ_cons (show ((List.map (canonR) x) = (List.map (canonR) x)) from rfl) (allQ_cons h2 (allQ_cons h3 (allQ_cons (show (n = n) from rfl) (allQ_cons (show (((mountM (4194304 : Int) (List.map (canonR) x))).1 = ((mountM (4194304 : Int) (List.map (canonR) x))).1) from rfl) (allQ_cons (show ((((mountM (4194304 : Int) (List.map (canonR) x))).2).1 = (((mountM (4194304 : Int) (List.map (canonR) x))).2).1) from rfl) (allQ_cons (show (((((mountM (4194304 : Int) (List.map (canonR) x))).2).2).1 = ((((mountM (4194304 : Int) (List.map (canonR) x))).2).2).1) from rfl) (allQ_cons (show ((((((mountM (4194304 : Int) (List.map (canonR) x))).2).2).2).1 = (((((mountM (4194304 : Int) (List.map (canonR) x))).2).2).2).1) from rfl) (allQ_cons (show ((((((mountM (4194304 : Int) (List.map (canonR) x))).2).2).2).2 = (((((mountM (4194304 : Int) (List.map (canonR) x))).2).2).2).2) from rfl) (allQ_cons h4 (allQ_cons h5 (allQ_cons h6 (allQ_cons (show (n = n) from rfl) (allQ_cons (show (((mountM (4194304 : Int) (List.map (canonR) x))).1 = ((mountM (4194304 : Int) (List.map (canonR) x))).1) from rfl) (allQ_cons (show ((((mountM (4194304 : Int) (List.map (canonR) x))).2).1 = (((mountM (4194304 : Int) (List.map (canonR) x))).2).1) from rfl) (allQ_cons (show (((((mountM (4194304 : Int) (List.map (canonR) x))).2).2).1 = ((((mountM (4194304 : Int) (List.map (canonR) x))).2).2).1) from rfl) (allQ_cons (show ((((((mountM (4194304 : Int) (List.map (canonR) x))).2).2).2).1 = (((((mountM (4194304 : Int) (List.map (canonR) x))).2).2).2).1) from rfl) (allQ_cons (show ((((((mountM (4194304 : Int) (List.map (canonR) x))).2).2).2).2 = (((((mountM (4194304 : Int) (List.map (canonR) x))).2).2).2).2) from rfl) (allQ_cons h4 (allQ_cons h5 (allQ_cons h7 (allQ_cons h8 (allQ_cons h9 (allQ_cons (show ((0 : Int) ≤ (0 : Int)) from by decide) (allQ_cons (show ((0 : Int) ≤ (32 : Int)) from by decide) (allQ_cons h10 (allQ_cons (show ((0 : Int) ≤ (32 : Int)) from by decide) (allQ_cons h10 (allQ_cons h11 (allQ_cons h12 (allQ_cons h13 (allQ_cons h14 (allQ_cons h15 (allQ_cons h16 (allQ_nil)))))))))))))))))))))))))))))))))))))⟩
theorem fl_ok (x : List Rec) (n : ByteArray)
 (h1 : (RowsOK x))
 (h2 : (FilesOK (List.map (canonR) x)))
 (h3 : ((mountE (4194304 : Int) (List.map (canonR) x)) = (0 : Int)))
 (h4 : (Okd (mountM (4194304 : Int) (List.map (canonR) x))))
 (h5 : ((ByteArray.size n) ≤ (9223372036854775807 : Nat)))
 (h6 : (loadB (mountM (4194304 : Int) (List.map (canonR) x)) n))
 (h7 : ((((readM (mountM (4194304 : Int) (List.map (canonR) x)) n)).1 == (41 : Int)) = false))
 (h8 : ((((readM (mountM (4194304 : Int) (List.map (canonR) x)) n)).1 != (0 : Int)) = false))
 (h9 : ((decide ((((List.length ((readM (mountM (4194304 : Int) (List.map (canonR) x)) n)).2) : Nat) : Int) < (32 : Int))) = false))
 (h10 : ((32 : Int) ≤ (((List.length ((readM (mountM (4194304 : Int) (List.map (canonR) x)) n)).2) : Nat) : Int)))
 (h11 : ((((List.length ((readM (mountM (4194304 : Int) (List.map (canonR) x)) n)).2) : Nat) : Int) ≤ (((List.length ((readM (mountM (4194304 : Int) (List.map (canonR) x)) n)).2) : Nat) : Int)))
 (h12 : ((List.length (List.drop (32 : Nat) (List.take (Int.toNat (((List.length ((readM (mountM (4194304 : Int) (List.map (canonR) x)) n)).2) : Nat) : Int)) ((readM (mountM (4194304 : Int) (List.map (canonR) x)) n)).2))) ≤ (140737488351232 : Nat)))
 (h13 : ((decide ((List.drop (0 : Nat) (List.take (32 : Nat) ((readM (mountM (4194304 : Int) (List.map (canonR) x)) n)).2)) = (rfSum (List.drop (32 : Nat) (List.take (Int.toNat (((List.length ((readM (mountM (4194304 : Int) (List.map (canonR) x)) n)).2) : Nat) : Int)) ((readM (mountM (4194304 : Int) (List.map (canonR) x)) n)).2))))) = true))
 (h14 : ((List.length (List.drop (0 : Nat) (List.take (32 : Nat) ((readM (mountM (4194304 : Int) (List.map (canonR) x)) n)).2))) ≤ (9223372036854775807 : Nat)))
 (h15 : ((List.length (rfSum (List.drop (32 : Nat) (List.take (Int.toNat (((List.length ((readM (mountM (4194304 : Int) (List.map (canonR) x)) n)).2) : Nat) : Int)) ((readM (mountM (4194304 : Int) (List.map (canonR) x)) n)).2)))) ≤ (9223372036854775807 : Nat)))
 (h16 : ((decide (((loadM (mountM (4194304 : Int) (List.map (canonR) x)) n)).2 = (List.drop (32 : Nat) (List.take (Int.toNat (((List.length ((readM (mountM (4194304 : Int) (List.map (canonR) x)) n)).2) : Nat) : Int)) ((readM (mountM (4194304 : Int) (List.map (canonR) x)) n)).2)))) = true))
 (h17 : ((List.length ((loadM (mountM (4194304 : Int) (List.map (canonR) x)) n)).2) ≤ (9223372036854775807 : Nat)))
 (h18 : ((List.length (List.drop (32 : Nat) (List.take (Int.toNat (((List.length ((readM (mountM (4194304 : Int) (List.map (canonR) x)) n)).2) : Nat) : Int)) ((readM (mountM (4194304 : Int) (List.map (canonR) x)) n)).2))) ≤ (9223372036854775807 : Nat))) :
 ∃ ps, runF Tryd.prog DF gFlO 100 Tryd.f4 [.one (.prs fSh x), .one (.str n)] [.is false, .is false, .is false, .is true, .is true] = some ((AV.v (A0.one (Part.bool true true))), ps) ∧ AllQ ps := ⟨_, by kernel_rfl, allQ_cons (show (x = x) from rfl) (allQ_cons h1 (allQ_cons (show ((4194304 : Int) = (4194304 : Int)) from rfl) (allQ_cons (show ((List.map (canonR) x) = (List.map (canonR) x)) from rfl) (allQ_cons h2 (allQ_cons h3 (allQ_cons (show (n = n) from rfl) (allQ_cons (show (((mountM (4194304 : Int) (List.map (canonR) x))).1 = ((mountM (4194304 : Int) (List.map (canonR) x))).1) from rfl) (allQ_cons (show ((((mountM (4194304 : Int) (List.map (canonR) x))).2).1 = (((mountM (4194304 : Int) (List.map (canonR) x))).2).1) from rfl) (allQ_cons (show (((((mountM (4194304 : Int) (List.map (canonR) x))).2).2).1 = ((((mountM (4194304 : Int) (List.map (canonR) x))).2).2).1) from rfl) (allQ_cons (show ((((((mountM (4194304 : Int) (List.map (canonR) x))).2).2).2).1 = (((((mountM (4194304 : Int) (List.map (canonR) x))).2).2).2).1) from rfl) (allQ_cons (show ((((((mountM (4194304 : Int) (List.map (canonR) x))).2).2).2).2 = (((((mountM (4194304 : Int) (List.map (canonR) x))).2).2).2).2) from rfl) (allQ_cons h4 (allQ_cons h5 (allQ_cons h6 (allQ_cons (show (n = n) from rfl) (allQ_cons (show (((mountM (4194304 : Int) (List.map (canonR) x))).1 = ((mountM (4194304 : Int) (List.map (canonR) x))).1) from rfl) (allQ_cons (show ((((mountM (4194304 : Int) (List.map (canonR) x))).2).1 = (((mountM (4194304 : Int) (List.map (canonR) x))).2).1) from rfl) (allQ_cons (show (((((mountM (4194304 : Int) (List.map (canonR) x))).2).2).1 = ((((mountM (4194304 : Int) (List.map (canonR) x))).2).2).1) from rfl) (allQ_cons (show ((((((mountM (4194304 : Int) (List.map (canonR) x))).2).2).2).1 = (((((mountM (4194304 : Int) (List.map (canonR) x))).2).2).2).1) from rfl) (allQ_cons (show ((((((mountM (4194304 : Int) (List.map (canonR) x))).2).2).2).2 = (((((mountM (4194304 : Int) (List.map (canonR) x))).2).2).2).2) from rfl) (allQ_cons h4 (allQ_cons h5 (allQ_cons h7 (allQ_cons h8 (allQ_cons h9 (allQ_cons (show ((0 : Int) ≤ (0 : Int)) from by decide) (allQ_cons (show ((0 : Int) ≤ (32 : Int)) from by decide) (allQ_cons h10 (allQ_cons (show ((0 : Int) ≤ (32 : Int)) from by decide) (allQ_cons h10 (allQ_cons h11 (allQ_cons h12 (allQ_cons h13 (allQ_cons h14 (allQ_cons h15 (allQ_cons (show ((0 : Int) ≤ (32 : Int)) from by decide) (allQ_cons h10 (allQ_cons h11 (allQ_cons h16 (allQ_cons h17 (allQ_cons h18 (allQ_nil))))))))))))))))))))))))))))))))))))))))))⟩
end Go.Num
namespace Go.Num
open Go.Abs Go.Proofs Go.Shelf Go.RowKit
abbrev cVote : ByteArray := ⟨#[118, 111, 116, 101]⟩
theorem right_vote : NameOK cVote := ⟨by kernel_rfl, by decide, by kernel_rfl, by decide⟩
def fhD : DkT := (1000, 3, 0, false, one cVote (sealL [97, 98]) (sealL [97, 98]).length)
theorem fh_save : saveM (clampR 1000, 0, 0, false, []) cVote [97, 98] = (0, fhD) := by
  rw [show clampR 1000 = 1000 from by decide, save_new right_vote (by decide), if_neg (by rw [seal_len]; decide)]
  rfl
theorem headF_ok : FnOK Tryd.prog DF 6 headFD := by
  refine fnOK_of gFh_ok mixed Tryd.func6 (enters_of Tryd.func6 (by kernel_rfl) rfl) ?_
  intro xs r ps h hps
  unfold headFD at h
  split at h
  · cases h
    have o0 : OkN (clampR 1000, 0, 0, false, []) 0 := ⟨okd_new 1000, Int.le_refl _⟩
    have o1 := save_ok o0 cVote [97, 98]
    rw [fh_save] at o1
    have hr : readM fhD cVote = (0, sealL [97, 98]) := read_one right_vote.1
    have hl := seal_load hr
    have hx : readM fhD cX = (41, []) := by
      unfold readM
      have he : DkT.err fhD cX = 41 := by
        show errF false (one cVote _ _) cX = 41
        unfold errF
        rw [if_neg (by decide), if_pos right_x, if_neg]
        simp [one, hasE, getE]
      rw [he]
      rfl
    have hn : ¬ loadB fhD cX := fun h => by have := h.1; rw [hx] at this; cases this
    have hm : loadM fhD cX = (0, []) := by unfold loadM; rw [hx]; rfl
    have hlen : (listM fhD).length = 1 := by
      unfold listM
      rw [if_neg (by decide), sortK_len]
      rfl
    have hsf : safeSum none fhD.2.2.2.2 = 34 := by
      show safeSum none (one cVote (sealL [97, 98]) (sealL [97, 98]).length) = 34
      rw [safe_one, seal_len]
      rfl
    have hf : ∀ (P : Int × DkT → Prop), P (0, fhD) → P (saveM (clampR 1000, 0, 0, false, []) cVote [97, 98]) := fun P h => by rw [fh_save]; exact h
    obtain ⟨ps, p1, p2⟩ := fh_run (o0.le (by decide)) (hf (fun x => (x.1 != 0) = false) rfl) (hf (fun x => Okd x.2) o1.1) (hf (fun x => loadB x.2 cVote) hl.1) (hf (fun x => ¬ loadB x.2 cX) hn) (by decide)
      (hf (fun x => ((loadM x.2 cX).1 == 0) = true) (by rw [hm]; rfl)) (hf (fun x => (((listM x.2).length : Int) == 1) = true) (by rw [hlen]; rfl)) (hf (fun x => FreeOK none x.2.2.2.2.2 x.2.1) o1.1.freeN) (hf (fun x => (x.2.1 - safeSum none x.2.2.2.2.2 == 966) = true) (by simp only; rw [hsf]; rfl))
    exact ⟨_, 100, _, _, _, fun w vs h => h, p1, p2, fun E v hv => hv⟩
  · cases h
theorem mount_data {ll : List Rec} {P : List Int → Prop} (h0 : P []) (h : ∀ r ∈ ll, P (recW r 1)) : ∀ (es : List (Rec × Ob)), (∀ k, P (obD (obE es k))) → ∀ k, P (obD (obE (moGo ll es).2 k)) := by
  induction ll with
  | nil => intro es he k; exact he k
  | cons r rs ih =>
    intro es he k
    unfold moGo
    split
    · exact he k
    · refine ih (fun q hq => h q (List.mem_cons_of_mem _ hq)) _ (fun j => ?_) k
      unfold moPut
      rw [obE_set]
      split
      · exact h r (List.mem_cons_self ..)
      · exact he j
theorem mount_read {n : Int} {ll : List Rec} {P : List Int → Prop} (h0 : P []) (h : ∀ r ∈ ll, P (recW r 1)) (s : ByteArray) : P (readM (mountM n ll) s).2 := by
  unfold readM
  split
  · exact h0
  · exact mount_data h0 h [] (fun k => h0) _
theorem files_rows {x : List Rec} (hx : x.length ≤ 2932031007400 ∧ ∀ r ∈ x, FileIn r) : RowsOK x ∧ FilesOK (x.map canonR) ∧ x.map canonR = x := by
  have he : x.map canonR = x := by
    conv => rhs; rw [← List.map_id x]
    exact List.map_congr_left fun r hr => (hx.2 r hr).2.2.2.symm
  refine ⟨⟨hx.1, fun r hr => by have := (hx.2 r hr).2.1; omega⟩, ?_, he⟩
  rw [he]
  exact fun r hr => ⟨(hx.2 r hr).1, by have := (hx.2 r hr).2.1; omega⟩
theorem gFlB_ok : GamOK Tryd.prog DF gFlB := gam_freeze (gam_cons headF_ok (gam_rd copy17_ok (gam_op mountBad_ok (gam_op loadNil_ok (gam_op saveNil_ok gam_nil)))))
theorem gFlN_ok : GamOK Tryd.prog DF gFlN := gam_freeze (gam_cons headF_ok (gam_rd copy17_ok (gam_op mountOk_ok (gam_rd loadNo_ok (gam_rd read_ok (gam_cons ref_ok (gam_cons (same_ok DF) gam_nil)))))))
theorem gFlO_ok : GamOK Tryd.prog DF gFlO := gam_freeze (gam_cons headF_ok (gam_rd copy17_ok (gam_op mountOk_ok (gam_rd loadOk_ok (gam_rd read_ok (gam_cons ref_ok (gam_cons (same_ok DF) gam_nil)))))))
theorem law_loads {x : List Rec} {n : ByteArray} (hx : x.length ≤ 2932031007400 ∧ ∀ r ∈ x, FileIn r) (hn : n.size ≤ 9223372036854775807) :
    ∃ Γ, GamOK Tryd.prog DF Γ ∧ ∃ ds ps, runF Tryd.prog DF Γ 100 Tryd.f4 [.one (.prs fSh x), .one (.str n)] ds = some (.v (.one (.bool true true)), ps) ∧ AllQ ps := by
  obtain ⟨hr, hf, he⟩ := files_rows hx
  by_cases hm : mountE 4194304 (x.map canonR) = 0
  · have hd := mount_okd hf hm
    have hlen : (readM (mountM 4194304 (x.map canonR)) n).2.length ≤ 140737488351232 :=
      mount_read (P := fun l => l.length ≤ 140737488351232) (by simp) (by rw [he]; exact fun r hr => (hx.2 r hr).2.1) n
    have hin : InB (readM (mountM 4194304 (x.map canonR)) n).2 :=
      mount_read (P := InB) (fun a h => by cases h) (by rw [he]; exact fun r hr => (hx.2 r hr).2.2.1) n
    generalize hmm : mountM 4194304 (x.map canonR) = d at hd hlen hin
    have hsum : rfSum ((readM d n).2.drop 32) = ofF [(readM d n).2.drop 32] := by
      have := of_same (ll := [(readM d n).2.drop 32]) (fun a ha => hin a (List.mem_of_mem_drop (by simpa using ha)))
      rw [this]
      simp
    have hl32 : (rfSum ((readM d n).2.drop 32)).length = 32 := by rw [hsum, ofF_len]
    by_cases c1 : (readM d n).1 = 41
    · have hb : ¬ loadB d n := fun h => by rw [h.1] at c1; cases c1
      have hl : (loadM d n).1 = 0 := by unfold loadM; rw [if_pos c1]
      subst hmm
      obtain ⟨ps, p1, p2⟩ := fl_gone x n hr hf hm hd hn hb (beq_iff_eq.2 c1) (beq_iff_eq.2 hl)
      exact ⟨_, gFlN_ok, _, ps, p1, p2⟩
    by_cases c2 : (readM d n).1 = 0
    · have c1' : ((readM d n).1 == 41) = false := by rw [c2]; rfl
      have c2' : ((readM d n).1 != 0) = false := by rw [c2]; rfl
      by_cases c3 : (readM d n).2.length < 32
      · have hb : ¬ loadB d n := fun h => by have := h.2.1; omega
        have hl : (loadM d n).1 = 44 := by unfold loadM; rw [if_neg c1, if_neg (by rw [c2]; decide), if_pos c3]
        subst hmm
        obtain ⟨ps, p1, p2⟩ := fl_short x n hr hf hm hd hn hb c1' c2' (decide_eq_true (by omega)) (beq_iff_eq.2 hl)
        exact ⟨_, gFlN_ok, _, ps, p1, p2⟩
      by_cases c4 : ofF [(readM d n).2.drop 32] = (readM d n).2.take 32
      · have hb : loadB d n := ⟨c2, by omega, c4⟩
        have hl : (loadM d n).2 = (readM d n).2.drop 32 := by unfold loadM; rw [if_neg c1, if_neg (by rw [c2]; decide), if_neg c3, if_neg (fun h => h c4)]
        have ht : (readM d n).2.take ((readM d n).2.length : Int).toNat = (readM d n).2 := by rw [Int.toNat_natCast, List.take_length]
        have hdl : ((readM d n).2.drop 32).length ≤ 140737488351232 := by rw [List.length_drop]; omega
        subst hmm
        obtain ⟨ps, p1, p2⟩ := fl_ok x n hr hf hm hd hn hb c1' c2' (decide_eq_false (by omega)) (by omega) (Int.le_refl _) (by rw [ht]; exact hdl) (by rw [ht, hsum, List.drop_zero, c4]; exact decide_eq_true rfl)
          (by rw [List.drop_zero, List.length_take]; omega) (by rw [ht, hl32]; decide) (by rw [ht, hl]; exact decide_eq_true rfl) (by rw [hl]; omega) (by rw [ht]; omega)
        exact ⟨_, gFlO_ok, _, ps, p1, p2⟩
      · have hb : ¬ loadB d n := fun h => c4 h.2.2
        have hl : (loadM d n).1 = 44 := by unfold loadM; rw [if_neg c1, if_neg (by rw [c2]; decide), if_neg c3, if_pos c4]
        have ht : (readM d n).2.take ((readM d n).2.length : Int).toNat = (readM d n).2 := by rw [Int.toNat_natCast, List.take_length]
        have hdl : ((readM d n).2.drop 32).length ≤ 140737488351232 := by rw [List.length_drop]; omega
        subst hmm
        obtain ⟨ps, p1, p2⟩ := fl_sum x n hr hf hm hd hn hb c1' c2' (decide_eq_false (by omega)) (by omega) (Int.le_refl _) (by rw [ht]; exact hdl) (by rw [ht, hsum, List.drop_zero]; exact decide_eq_false (fun h => c4 h.symm))
          (by rw [List.drop_zero, List.length_take]; omega) (by rw [ht, hl32]; decide) (beq_iff_eq.2 hl)
        exact ⟨_, gFlN_ok, _, ps, p1, p2⟩
    · have hb : ¬ loadB d n := fun h => c2 h.1
      have hl : (loadM d n).1 = (readM d n).1 := by unfold loadM; rw [if_neg c1, if_pos c2]
      subst hmm
      obtain ⟨ps, p1, p2⟩ := fl_err x n hr hf hm hd hn hb (beq_false_of_ne c1) (bne_iff_ne.2 c2) (beq_iff_eq.2 hl)
      exact ⟨_, gFlN_ok, _, ps, p1, p2⟩
  · obtain ⟨ps, p1, p2⟩ := fl_bad x n hr hf hm
    exact ⟨_, gFlB_ok, _, ps, p1, p2⟩
end Go.Num
namespace Go.Laws
open Go.Abs Go.Proofs Go.Proofs.YtpjphlncockggaaDoor Go.ChangeShapes Go.WideShapes Go.ChangeAt Go.RowKit Go.Num
theorem own : ownKnob Tryd.prog.godebug = none := by kernel_rfl
theorem laidOut : laidOutB Tryd.prog = true := by kernel_rfl
theorem trodAll_below {H : Type} {enc : TypeId × Value → H} {P : Program} (hl : laidOutB P = true) {W W' : World} (hb : Below W.heap.size W W') :
    ∀ {ts : List TypeId} {vs : List Value} {ds : List (DataW H)} {ps : List MemPlace}, (ts.all fun t => P.readableRec t && decide (t < P.types.size)) = true →
      DataW.TrodAll enc P W 0 (fun _ => true) true ts vs ds ps → (∀ x ∈ ps, x.block < W.heap.size) → DataW.TrodAll enc P W' 0 (fun b => decide (b < W.heap.size)) true ts vs ds ps
  | [], [], [], _, _, h, _ => h
  | [], [], _ :: _, _, _, h, _ => h.elim
  | [], _ :: _, _, _, _, h, _ => h.elim
  | _ :: _, [], _, _, _, h, _ => h.elim
  | _ :: _, _ :: _, [], _, _, h, _ => h.elim
  | t :: ts, v :: vs, d :: ds, ps, hr, h, hlt => by
    obtain ⟨p, q, h1, h2, rfl⟩ := h
    simp only [List.all_cons, Bool.and_eq_true, decide_eq_true_eq] at hr
    exact ⟨p, q, Below.trod hl hr.1.1 hr.1.2 h1 hb (fun x hx => hlt x (List.mem_append_left _ hx)), trodAll_below hl hb (by simpa using hr.2) h2 (fun x hx => hlt x (List.mem_append_right _ hx)), rfl⟩
theorem law_post {H : Type} {enc : TypeId × Value → H} {P : Program} {fn : Func} {s : ChangeSpec} {W W' : World} {args : Array Value} {ds : List (DataW H)} {before : List MemPlace} {tb : TypeId} (hl : laidOutB P = true)
    (hp : (fn.params.toList.all fun t => P.readableRec t && decide (t < P.types.size)) = true) (hs : s.vars = []) (hfn : s.fn H (ds ++ []) = { results := [.lit (.bool true)], args := ds })
    (hr : fn.resultTypes = #[tb]) (htb : P.underlying tb = some .bool) (hW : DataW.Whole enc P fn.params.toList s.vars false W args.toList ds [] before) (hb : Below W.heap.size W W') :
    s.post enc P fn false true false false W args (.bool true) W' := by
  have hlt : ∀ p ∈ before, p.block < W.heap.size := fun p hp => hW.lt p hp
  obtain ⟨p, q, hA, hV, hpq, hfz, hnd⟩ := id hW
  have hq : q = [] := by
    rw [hs] at hV
    exact hV
  subst hq
  rw [List.append_nil] at hpq
  subst hpq
  refine ⟨ds, [], before, [], before, [], hW, ?_, ?_, ?_, World.keptBut_mono (fun x hx => ⟨hx, .inr (.inl hx)⟩) (hb.frame (· ∈ before)), fun h => by cases h⟩
  · rw [hfn, hr]
    exact trodAll_cons_mk (shut_bool htb _) trodAll_mk0
  · rw [hfn]
    exact trodAll_below hl hb hp hA hlt
  · rw [hfn, hs]
    rfl
theorem no_spot {W : World} {a : Addr} {v : Value} (h : W.cell? a = some v) : a.spot = none := by
  unfold World.cell? at h
  split at h
  · split at h
    · cases h
    · rename_i hsp
      simpa using hsp
  · cases h
theorem add_plain {a : Addr} (hs : a.spot = none) (i : Nat) : a.add i = ⟨a.block, a.off + i, none⟩ := by
  unfold Addr.add
  split
  · rename_i h0
    subst h0
    cases a
    simp only at hs
    subst hs
    rfl
  · rfl
theorem cells_words {H : Type} {enc : TypeId × Value → H} {P : Program} {W : World} {t e : TypeId} {k : IntKind} {fuel : Nat} {cs : List Value} {x : DataW H × List MemPlace} (ht : P.underlying t = some (.slice e)) (he : P.underlying e = some (.int k)) (hc : P.cellsOf e = 1)
    (h : DataW.trod enc P W 0 (fun _ => true) true fuel t cs = some x) (hr : ∀ n ∈ x.1.weights P t, n ≤ reachBytes) :
    ∃ (v : Value) (l : List Int), cs = [v] ∧ SlRel (fun _ => False) W k l v ∧ v.oneCell' = true ∧ (∀ n ∈ l, (Lit.int k n).wf = true) ∧ l.length * P.bytesOf e ≤ reachBytes ∧
      ((l = [] ∧ x.1 = .nil) ∨ ∃ rest, x.1 = .slice (lits k l) rest) := by
  rcases open_ints ht he hc h with ⟨h1, h2⟩ | ⟨a, len, cap, zs, h1, _, h3, h4, h5, h6, h7, h8⟩
  · exact ⟨.slice none 0 0, [], h1, ⟨none, 0, rfl, Nat.le_refl _, Nat.zero_le _, fun _ => rfl, (fun i hi => by cases hi)⟩, rfl, (fun n hn => by cases hn), by simp, .inl ⟨rfl, by rw [h2]⟩⟩
  · subst h6
    simp only [if_true] at h5
    have hl : (zs.take len).length = len := by rw [List.length_take]; omega
    refine ⟨_, zs.take len, h1, ⟨some a, cap, by rw [hl], by omega, h4, (fun h => by cases h), fun i hi => ?_⟩, rfl, fun n hn => h8 n (List.mem_of_mem_take hn), ?_, .inr ⟨_, rfl⟩⟩
    · rw [hl] at hi
      have h0 := h7 0 (by omega)
      rw [Addr.add, if_pos rfl] at h0
      have hs := no_spot h0
      have h9 := h7 i (by omega)
      rw [add_plain hs] at h9
      refine ⟨a.block, a.off, ?_, fun h => h, ?_⟩
      · cases a
        simp only at hs
        subst hs
        rfl
      · rw [h9]
        congr 2
        rw [List.getD_eq_getElem?_getD, List.getD_eq_getElem?_getD, List.getElem?_take_of_lt hi]
    · have h10 := hr ((zs.take len).length * P.bytesOf e + (zs.drop len).length * P.bytesOf e) (by simp only [DataW.weights, ht, lits, List.length_map, Nat.add_mul]; exact List.mem_cons_self ..)
      omega
theorem choose_list {α : Type} {p : Nat → α → Prop} : ∀ {n : Nat}, (∀ i, i < n → ∃ x, p i x) → ∃ l : List α, l.length = n ∧ ∀ i x, l[i]? = some x → p i x
  | 0, _ => ⟨[], rfl, fun i x h => by cases h⟩
  | n + 1, h => by
    obtain ⟨l, h1, h2⟩ := choose_list (n := n) fun i hi => h i (by omega)
    obtain ⟨x, hx⟩ := h n (by omega)
    refine ⟨l ++ [x], by simp [h1], fun i y hy => ?_⟩
    by_cases hi : i < l.length
    · rw [List.getElem?_append_left hi] at hy
      exact h2 i y hy
    · rw [List.getElem?_append_right (by omega)] at hy
      have hi' : i - l.length = 0 := by
        have := (List.getElem?_eq_some_iff.1 hy).1
        simp at this
        omega
      rw [hi'] at hy
      simp only [List.getElem?_cons_zero, Option.some.injEq] at hy
      subst hy
      rw [show i = n from by omega]
      exact hx
theorem weights_all {H : Type} {P : Program} {e : TypeId} {d : DataW H} : ∀ {l : List (DataW H)}, d ∈ l → ∀ n ∈ d.weights P e, n ∈ DataW.weightsAll P e l
  | [], h, _, _ => by cases h
  | x :: l, h, n, hn => by
    simp only [DataW.weightsAll, List.mem_append]
    rcases List.mem_cons.1 h with rfl | h
    · exact .inl hn
    · exact .inr (weights_all h n hn)
theorem wf_u8 {n : Int} (h : (Lit.int .u8 n).wf = true) : 0 ≤ n ∧ n < 256 := by
  have h1 : IntKind.u8.min = 0 := rfl
  have h2 : IntKind.u8.max = 255 := rfl
  simp only [Lit.wf, Bool.and_eq_true, decide_eq_true_eq] at h
  omega
theorem rel_nil {D : Dom} {E : Env} : A0sRel D E [] [] := rfl
theorem rel_cons {D : Dom} {E : Env} {a : A0 D.τ} {v : Value} {xs : List (A0 D.τ)} {vs : List Value} (h : A0Rel D E a v) (k : A0sRel D E xs vs) : A0sRel D E (a :: xs) (v :: vs) := ⟨v, vs, rfl, h, k⟩
theorem law_calls {P : Program} {D : Dom} {Γ : Gam D} (hΓ : GamOK P D Γ) (hm : P.follows .mixedOrders = true) {f : FuncId} {fn : Func} (hf : P.funcs[f]? = some fn) {fuel : Nat} {xs : List (A0 D.τ)} {ds : List (Dec D.τ)} {b : Bool} {ps : List Prop}
    (h : runF P D Γ fuel fn xs ds = some (.v (.one (.bool b true)), ps)) (hps : AllQ ps) {W : World} {vs : List Value} (hG : GlobAt D W) (hx : A0sRel D (cenv W) xs vs) :
    Calls P f vs.toArray W fun e w' => e = .returned (.bool true) ∧ Below W.heap.size W w' := by
  refine (runF_calls hΓ hm hf h hps hG hx).mono ?_
  rintro e w' ⟨v, he, ⟨ν, _, hr⟩, hb⟩
  have hv : v = .bool true := by
    obtain ⟨_, h2⟩ := hr
    simpa [PartRel] using h2
  subst hv
  exact ⟨he, hb⟩
end Go.Laws
namespace Go.Laws
open Go.Abs Go.Proofs Go.Proofs.YtpjphlncockggaaDoor Go.RowKit Go.Num
theorem gFirst : Tryd.prog.globalNamed "cresset/sha.first" = some 0 := by kernel_rfl
theorem gRoots : Tryd.prog.globalNamed "cresset/sha.roots" = some 1 := by kernel_rfl
theorem tFirst : (Tryd.prog.globals[0]?).map (·.type) = some 77 := by kernel_rfl
theorem tRoots : (Tryd.prog.globals[1]?).map (·.type) = some 94 := by kernel_rfl
theorem globAt {W : World} (h : laidMet Tryd.prog [("cresset/sha.first", Rows.laid_cresset_sha_first), ("cresset/sha.roots", Rows.laid_cresset_sha_roots)] W) : GlobAt DS W := by
  have h1 : Lib.TabIs Tryd.prog W "cresset/sha.first" .u32 firstL := Lib.tabIs_of_head gFirst tFirst Tryd.underlying77 Tryd.underlying68 (by kernel_rfl) (by kernel_rfl) h
  have h2 : Lib.TabIs Tryd.prog W "cresset/sha.roots" .u32 rootsL := Lib.tabIs_of_head gRoots tRoots Tryd.underlying94 Tryd.underlying68 (by kernel_rfl) (by kernel_rfl) (laidMet.tail h)
  have put : ∀ {g : Nat} {name : String} {l : List Int}, Tryd.prog.globalNamed name = some g → Lib.TabIs Tryd.prog W name .u32 l → 0 < l.length → g < W.heap.size ∧ ∀ i, i < l.length → W.cell? ⟨g, i, none⟩ = some (.int .u32 (l.getD i 0)) := by
    intro g name l hg ht hl
    refine ⟨?_, fun i hi => ht.cell hg i hi⟩
    have h0 := ht.cell hg 0 hl
    unfold World.cell? at h0
    split at h0
    · rename_i hh
      exact (Array.getElem?_eq_some_iff.1 hh).1
    · cases h0
  intro g k l hg
  have hg : (bif Nat.beq g 0 then some (IntKind.u32, firstL) else bif Nat.beq g 1 then some (IntKind.u32, rootsL) else none) = some (k, l) := hg
  cases e1 : Nat.beq g 0 <;> rw [e1] at hg
  · cases e2 : Nat.beq g 1 <;> rw [e2] at hg
    · cases hg
    · simp only [cond_false, cond_true, Option.some.injEq, Prod.mk.injEq] at hg
      obtain ⟨rfl, rfl⟩ := hg
      obtain rfl := Nat.eq_of_beq_eq_true e2
      exact put gRoots h2 (by decide)
  · simp only [cond_true, Option.some.injEq, Prod.mk.injEq] at hg
    obtain ⟨rfl, rfl⟩ := hg
    obtain rfl := Nat.eq_of_beq_eq_true e1
    exact put gFirst h1 (by decide)
def layTab (l : List Int) : Obj → Obj
  | .cells _ t frozen => .cells (l.map (.int .u32)).toArray t frozen
  | o => o
noncomputable def laidWorld (os : Os) : World :=
  { World.holding Tryd.prog os ⟨#[], #[], []⟩ with heap := ((World.holding Tryd.prog os ⟨#[], #[], []⟩).heap.modify 0 (layTab firstL)).modify 1 (layTab rootsL) }
end Go.Laws
namespace Go.Num
open Go.Abs Go.Proofs Go.Shelf Go.RowKit
structure OpT where
  k : Int
  s : ByteArray
  t : ByteArray
  b : List Int
  n : Int
  ke : List Int
structure OpOk (o : OpT) : Prop where
  s : o.s.size ≤ 9223372036854775807
  t : o.t.size ≤ 9223372036854775807
  b : o.b.length ≤ 140737488355328
  n : o.n ≤ 9223372036854775807
  ke : o.ke.length * 8 ≤ 140737488355328
end Go.Num
namespace Go.Num
open Go.Abs Go.Proofs Go.Shelf Go.RowKit
abbrev cO : ByteArray := ⟨#[111, 119, 110]⟩
def Own (a : List Int) (es : List (Rec × Ob)) : Prop := hasE es [Fd.s cO] = true ∧ obE es [Fd.s cO] = fileOb a a.length
structure ApI (a : List Int) (d : DkT) (k : Nat) : Prop where
  ok : OkN d (k + 5)
  own : Own a d.2.2.2.2
end Go.Num
namespace Go.Laws
open Go.Abs Go.Proofs Go.ChangeShapes Go.WideShapes Go.ChangeAt Go.RowKit Go.Num
theorem cells_int {H : Type} {enc : TypeId × Value → H} {P : Program} {W : World} {t : TypeId} {k : IntKind} {fuel : Nat} {cs : List Value} {x : DataW H × List MemPlace} (ht : P.underlying t = some (.int k)) (h : DataW.trod enc P W 0 (fun _ => true) true fuel t cs = some x) :
    ∃ n, cs = [.int k n] ∧ (Lit.int k n).wf = true := by
  obtain ⟨n, h1, _, h3⟩ := DataW.trod_int ht h
  exact ⟨n, h1, h3⟩
theorem cells_str {H : Type} {enc : TypeId × Value → H} {P : Program} {W : World} {t : TypeId} {fuel : Nat} {cs : List Value} {x : DataW H × List MemPlace} (ht : P.underlying t = some .string) (h : DataW.trod enc P W 0 (fun _ => true) true fuel t cs = some x) :
    ∃ s : ByteArray, cs = [.string s] ∧ s.size ≤ 9223372036854775807 := by
  obtain ⟨s, h1, _, h3⟩ := DataW.trod_string ht h
  exact ⟨s, h1, h3⟩
theorem sl_known {W : World} {k : IntKind} {l : List Int} {v : Value} (h : SlRel (fun _ => False) W k l v) : SlRel (fun b => ¬ (cenv W).σ.zm b) (cenv W).σ.zw k l v := by
  obtain ⟨ao, cap, e, h1, h2, h3, h4⟩ := h
  refine ⟨ao, cap, e, h1, h2, h3, fun i hi => ?_⟩
  obtain ⟨b, off, e1, _, e3⟩ := h4 i hi
  exact ⟨b, off, e1, fun hn => hn (World.block_lt_of_cell? _ _ e3), e3⟩
theorem three {α : Type} {cs : List α} {a b c : α} (hl : cs.length = 3) (ha : (cs.drop 0).take 1 = [a]) (hb : (cs.drop 1).take 1 = [b]) (hc : (cs.drop 2).take 1 = [c]) : cs = [a, b, c] := by
  match cs, hl with
  | [_, _, _], _ => simp_all
theorem open_rows {P : Program} {H : Type} {enc : TypeId × Value → H} {W : World} {base : Nat} {v : Value} {d : DataW H} {ps : List MemPlace} {t e : TypeId} {sh : List FK} {n : Nat} {good : Rec → Prop} (ht : P.underlying t = some (.slice e)) (hc : P.cellsOf e = n) (hn : rsz sh = n) (h1n : 0 < n)
    (elem : ∀ {fuel : Nat} {cs : List Value} {x : DataW H × List MemPlace}, DataW.trod enc P W 0 (fun _ => true) true fuel e cs = some x → (∀ n ∈ x.1.weights P e, n ≤ reachBytes) → ∃ r : Rec, RecRel (cenv W).σ sh 0 r cs ∧ good r ∧ cs.length = n)
    (hval : Value.okWide P W .any base t v) (hd : DataW.Trod enc P W 0 (fun _ => true) true t v d ps) (hr : ∀ n ∈ d.weights P t, n ≤ reachBytes) :
    ∃ sc : List Rec, A0Rel DF (cenv W) (.one (.prs sh sc)) v ∧ sc.length * P.bytesOf e ≤ reachBytes ∧ ∀ r ∈ sc, good r := by
  obtain ⟨a0, len0, cap0, rfl⟩ := okWide_slice ht hval
  obtain ⟨fuel, hf⟩ := hd
  rcases DataW.trod_slice ht hf with ⟨h1, h2⟩ | ⟨a, len, cap, elems, rest, m, _, h1, h2, _, h3, h4, h5, h6, h7, _⟩
  · have h1' : [Value.slice a0 len0 cap0] = [.slice none 0 0] := h1
    simp only [List.cons.injEq, and_true] at h1'
    rw [h1']
    exact ⟨[], ⟨rfl, _, rfl, none, 0, rfl, Nat.le_refl _, Nat.zero_le _, fun _ => rfl, fun i r hi => by cases hi⟩, by simp, fun r hr => by cases hr⟩
  · have h1' : [Value.slice a0 len0 cap0] = [.slice (some a) len cap] := h1
    simp only [List.cons.injEq, and_true] at h1'
    rw [h1']
    simp only [Prod.mk.injEq] at h2
    obtain ⟨rfl, _⟩ := h2
    simp only [DataW.weights, ht] at hr
    have each : ∀ i, i < len → ∃ r : Rec, ∃ cs, W.cells? 0 (a.add (i * n)) n = some cs ∧ RecRel (cenv W).σ sh 0 r cs ∧ good r ∧ cs.length = n := by
      intro i hi
      have he' := h6 i hi
      have hy : elems[i]? = some (elems[i]'(by omega)) := List.getElem?_eq_getElem (by omega)
      rw [hy, hc, Option.bind_eq_some_iff] at he'
      obtain ⟨cs', hcs, hy'⟩ := he'
      obtain ⟨r, g1, g2, g3⟩ := elem hy' (fun n hn => hr n (List.mem_cons_of_mem _ (List.mem_append_left _ (weights_all (List.mem_map_of_mem (List.getElem_mem (by omega))) n hn))))
      exact ⟨r, cs', hcs, g1, g2, g3⟩
    obtain ⟨ll, hl1, hl2⟩ := choose_list each
    refine ⟨ll, ⟨rfl, _, rfl, some a, cap, by rw [hl1], by omega, h4, (fun h => by cases h), fun i r hi => ?_⟩, ?_, fun r hr => ?_⟩
    · obtain ⟨cs, q1, q2, q3, q4⟩ := hl2 i r hi
      have hil : i < len := by have := (List.getElem?_eq_some_iff.1 hi).1; omega
      obtain ⟨_, q5, q6⟩ := World.cells?_some q1
      have hs : a.spot = none := by
        obtain ⟨cs0, p1, _, _, p4⟩ := hl2 0 _ (List.getElem?_eq_getElem (show 0 < ll.length by omega))
        obtain ⟨_, _, p6⟩ := World.cells?_some p1
        have := p6 0 (by omega)
        rw [Nat.zero_mul, Addr.add, if_pos rfl, Addr.add, if_pos rfl, List.getElem?_eq_getElem (by omega)] at this
        exact no_spot this
      have ea : a = ⟨a.block, a.off, none⟩ := by
        cases a
        simp only at hs
        subst hs
        rfl
      have hat : ∀ j w, cs[j]? = some w → W.cell? ⟨a.block, a.off + i * n + j, none⟩ = some w := by
        intro j w hj
        have hjl : j < n := by have := (List.getElem?_eq_some_iff.1 hj).1; omega
        have := q6 j hjl
        rw [hj] at this
        rw [add_plain (a := a.add (i * n)) (by rw [add_plain hs]), add_plain hs] at this
        exact this
      refine ⟨a.block, a.off, cs, by rw [← ea], ?_, q2, by rw [hn]; exact hat⟩
      have h0 := hat 0 _ (List.getElem?_eq_getElem (show 0 < cs.length by omega))
      have := World.block_lt_of_cell? _ _ h0
      exact this
    · have h10 := hr _ (List.mem_cons_self ..)
      rw [List.length_map, h5] at h10
      rw [hl1]
      refine Nat.le_trans ?_ h10
      exact Nat.mul_le_mul_right _ (Nat.le_add_right _ _)
    · obtain ⟨i, hi⟩ := List.getElem?_of_mem hr
      obtain ⟨_, _, _, q3, _⟩ := hl2 i r hi
      exact q3
set_option maxRecDepth 10000 in
theorem open_file {H : Type} {enc : TypeId × Value → H} {W : World} {fuel : Nat} {cs : List Value} {x : DataW H × List MemPlace} (h : DataW.trod enc Tryd.prog W 0 (fun _ => true) true fuel 32 cs = some x)
    (hr : ∀ n ∈ x.1.weights Tryd.prog 32, n ≤ reachBytes) : ∃ r : Rec, RecRel (cenv W).σ fSh 0 r cs ∧ FileIn r ∧ cs.length = 3 := by
  obtain ⟨xs, n, _, hx, hcl, hlen, hfs⟩ := DataW.trod_struct Tryd.underlying32 h
  rw [show Tryd.prog.cellsOf 32 = 3 from by kernel_rfl] at hcl
  match xs, hlen with
  | [x0, x1, x2], _ =>
    subst hx
    have h0 := hfs 0 _ rfl
    have h1 := hfs 1 _ rfl
    have h2 := hfs 2 _ rfl
    obtain ⟨s, e0, hs⟩ := cells_str Tryd.underlying9 h0
    obtain ⟨u, l, e1, hsl, hone, hwf, hle, _⟩ := cells_words Tryd.underlying22 Tryd.underlying5 (by kernel_rfl) h1 (fun m hm => hr m (by
      simp only [DataW.weights, Tryd.underlying32]
      exact DataW.weights_mem_each (j := 1) (t := 22) rfl rfl m hm))
    obtain ⟨m, e2, _⟩ := cells_int Tryd.underlying3 h2
    rw [show Tryd.prog.bytesOf 5 = 1 from by kernel_rfl, Nat.mul_one] at hle
    obtain rfl := three hcl e0 e1 e2
    exact ⟨[.s s, .w l, .i m], ⟨[_], _, rfl, rfl, [_], _, rfl, ⟨u, rfl, sl_known hsl⟩, [_], _, rfl, rfl, rfl⟩, ⟨hs, hle, fun y hy => wf_u8 (hwf y hy), rfl⟩, hcl⟩
set_option maxRecDepth 10000 in
theorem open_files {H : Type} {enc : TypeId × Value → H} {W : World} {base : Nat} {v : Value} {d : DataW H} {ps : List MemPlace} (hval : Value.okWide Tryd.prog W .any base 29 v)
    (hd : DataW.Trod enc Tryd.prog W 0 (fun _ => true) true 29 v d ps) (hr : ∀ n ∈ d.weights Tryd.prog 29, n ≤ reachBytes) :
    ∃ sc : List Rec, A0Rel DF (cenv W) (.one (.prs fSh sc)) v ∧ sc.length ≤ 2932031007400 ∧ ∀ r ∈ sc, FileIn r := by
  obtain ⟨sc, h1, h2, h3⟩ := open_rows (n := 3) Tryd.underlying29 (by kernel_rfl) rfl (by decide) open_file hval hd hr
  rw [show Tryd.prog.bytesOf 32 = 48 from by kernel_rfl] at h2
  have h2' : sc.length * 48 ≤ 140737488351232 := h2
  exact ⟨sc, h1, by omega, h3⟩
end Go.Laws

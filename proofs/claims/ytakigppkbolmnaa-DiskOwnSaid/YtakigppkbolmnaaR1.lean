/- The document's disk: the same files, files copied. -/
import Derived.Test.YtakigppkbolmnaaD12
import Derived.Test.YtakigppkbolmnaaByte
namespace Go.Num
open Go.Abs Go.Proofs Go.Shelf Go.RowKit

def canonR (r : Rec) : Rec := [.s (recS r 0), .w (recW r 1), .i (recI r 2)]

noncomputable def gS : Gam DF := [(16, .fn (sameD DF)), (11, .fz (copyD DF))]
theorem gS_ok : GamOK Try.prog DF gS := gam_cons (same_ok DF) (gam_fz (copy_ok DF) gam_nil)

def ssSn (x y : List Rec) (k : Int) : Sn DF.τ where
  slots := [(0, .v (.one (.prs fSh x))), (1, .v (.one (.prs fSh y))), (12, .v (.one (.int .i64 false x.length))), (13, .v (.one (.int .i64 false k)))]
  boxes := []
  nt := 55
def ssNo : Sn DF.τ where
  slots := [(4, .v (.one (.bool true false)))]
  boxes := []
  nt := 55
def ssEnd : Sn DF.τ where
  slots := []
  boxes := []
  nt := 55
theorem ss_step (x y : List Rec) (k k' : Int)
 (h1 : ((decide (k < (((List.length x) : Nat) : Int))) = Bool.true))
 (h2 : ((0 : Int) ≤ k))
 (h3 : (k < (((List.length x) : Nat) : Int)))
 (h4 : (k < (((List.length y) : Nat) : Int)))
 (h5 : ((!(decide ((Go.Abs.recS (List.getD x (Int.toNat k) ([] : List (Abs.Fd))) (0 : Nat)) = (Go.Abs.recS (List.getD y (Int.toNat k) ([] : List (Abs.Fd))) (0 : Nat))))) = Bool.false))
 (h6 : (((Go.Abs.recI (List.getD x (Int.toNat k) ([] : List (Abs.Fd))) (((0 : Nat) + (1 : Nat)) + (1 : Nat))) != (Go.Abs.recI (List.getD y (Int.toNat k) ([] : List (Abs.Fd))) (((0 : Nat) + (1 : Nat)) + (1 : Nat)))) = Bool.false))
 (h7 : ((decide ((Go.Abs.recW (List.getD x (Int.toNat k) ([] : List (Abs.Fd))) ((0 : Nat) + (1 : Nat))) = (Go.Abs.recW (List.getD y (Int.toNat k) ([] : List (Abs.Fd))) ((0 : Nat) + (1 : Nat))))) = Bool.true))
 (h8 : ((List.length (Go.Abs.recW (List.getD x (Int.toNat k) ([] : List (Abs.Fd))) ((0 : Nat) + (1 : Nat)))) ≤ (9223372036854775807 : Nat)))
 (h9 : ((List.length (Go.Abs.recW (List.getD y (Int.toNat k) ([] : List (Abs.Fd))) ((0 : Nat) + (1 : Nat)))) ≤ (9223372036854775807 : Nat)))
 (h10 : (Go.Abs.InI64 (k + (1 : Int))))
 (h11 : ((k + (1 : Int)) = k')) :
 ∃ ps, stepPs Try.prog DF gS 100 (bodyN Try.f19 0) 100 (ssSn x y k).st [.is true, .is false, .is false, .is true] .normal (ssSn x y k') = some ps ∧ AllQ ps := ⟨_, by kernel_rfl, allQ_cons h1 (allQ_cons h2 (allQ_cons h3 (allQ_cons h2 (allQ_cons h4 (allQ_cons h5 (allQ_cons h2 (allQ_cons h3 (allQ_cons h2 (allQ_cons h4 (allQ_cons h6 (allQ_cons h2 (allQ_cons h3 (allQ_cons h2 (allQ_cons h4 (allQ_cons h7 (allQ_cons h8 (allQ_cons h9 (allQ_cons h10 (allQ_cons (show (x = x) from rfl) (allQ_cons (show (y = y) from rfl) (allQ_cons (show ((((List.length x) : Nat) : Int) = (((List.length x) : Nat) : Int)) from rfl) (allQ_cons h11 (allQ_nil)))))))))))))))))))))))⟩

theorem ss_name (x y : List Rec) (k : Int)
 (h1 : ((decide (k < (((List.length x) : Nat) : Int))) = Bool.true))
 (h2 : ((0 : Int) ≤ k))
 (h3 : (k < (((List.length x) : Nat) : Int)))
 (h4 : (k < (((List.length y) : Nat) : Int)))
 (h5 : ((!(decide ((Go.Abs.recS (List.getD x (Int.toNat k) ([] : List (Abs.Fd))) (0 : Nat)) = (Go.Abs.recS (List.getD y (Int.toNat k) ([] : List (Abs.Fd))) (0 : Nat))))) = Bool.true)) :
 ∃ ps, stepPs Try.prog DF gS 100 (bodyN Try.f19 0) 100 (ssSn x y k).st [.is true, .is true] .ret ssNo = some ps ∧ AllQ ps := ⟨_, by kernel_rfl, allQ_cons h1 (allQ_cons h2 (allQ_cons h3 (allQ_cons h2 (allQ_cons h4 (allQ_cons h5 (allQ_nil))))))⟩

theorem ss_safe (x y : List Rec) (k : Int)
 (h1 : ((decide (k < (((List.length x) : Nat) : Int))) = Bool.true))
 (h2 : ((0 : Int) ≤ k))
 (h3 : (k < (((List.length x) : Nat) : Int)))
 (h4 : (k < (((List.length y) : Nat) : Int)))
 (h5 : ((!(decide ((Go.Abs.recS (List.getD x (Int.toNat k) ([] : List (Abs.Fd))) (0 : Nat)) = (Go.Abs.recS (List.getD y (Int.toNat k) ([] : List (Abs.Fd))) (0 : Nat))))) = Bool.false))
 (h6 : (((Go.Abs.recI (List.getD x (Int.toNat k) ([] : List (Abs.Fd))) (((0 : Nat) + (1 : Nat)) + (1 : Nat))) != (Go.Abs.recI (List.getD y (Int.toNat k) ([] : List (Abs.Fd))) (((0 : Nat) + (1 : Nat)) + (1 : Nat)))) = Bool.true)) :
 ∃ ps, stepPs Try.prog DF gS 100 (bodyN Try.f19 0) 100 (ssSn x y k).st [.is true, .is false, .is true] .ret ssNo = some ps ∧ AllQ ps := ⟨_, by kernel_rfl, allQ_cons h1 (allQ_cons h2 (allQ_cons h3 (allQ_cons h2 (allQ_cons h4 (allQ_cons h5 (allQ_cons h2 (allQ_cons h3 (allQ_cons h2 (allQ_cons h4 (allQ_cons h6 (allQ_nil)))))))))))⟩

theorem ss_data (x y : List Rec) (k : Int)
 (h1 : ((decide (k < (((List.length x) : Nat) : Int))) = Bool.true))
 (h2 : ((0 : Int) ≤ k))
 (h3 : (k < (((List.length x) : Nat) : Int)))
 (h4 : (k < (((List.length y) : Nat) : Int)))
 (h5 : ((!(decide ((Go.Abs.recS (List.getD x (Int.toNat k) ([] : List (Abs.Fd))) (0 : Nat)) = (Go.Abs.recS (List.getD y (Int.toNat k) ([] : List (Abs.Fd))) (0 : Nat))))) = Bool.false))
 (h6 : (((Go.Abs.recI (List.getD x (Int.toNat k) ([] : List (Abs.Fd))) (((0 : Nat) + (1 : Nat)) + (1 : Nat))) != (Go.Abs.recI (List.getD y (Int.toNat k) ([] : List (Abs.Fd))) (((0 : Nat) + (1 : Nat)) + (1 : Nat)))) = Bool.false))
 (h7 : ((decide ((Go.Abs.recW (List.getD x (Int.toNat k) ([] : List (Abs.Fd))) ((0 : Nat) + (1 : Nat))) = (Go.Abs.recW (List.getD y (Int.toNat k) ([] : List (Abs.Fd))) ((0 : Nat) + (1 : Nat))))) = Bool.false))
 (h8 : ((List.length (Go.Abs.recW (List.getD x (Int.toNat k) ([] : List (Abs.Fd))) ((0 : Nat) + (1 : Nat)))) ≤ (9223372036854775807 : Nat)))
 (h9 : ((List.length (Go.Abs.recW (List.getD y (Int.toNat k) ([] : List (Abs.Fd))) ((0 : Nat) + (1 : Nat)))) ≤ (9223372036854775807 : Nat))) :
 ∃ ps, stepPs Try.prog DF gS 100 (bodyN Try.f19 0) 100 (ssSn x y k).st [.is true, .is false, .is false, .is false] .ret ssNo = some ps ∧ AllQ ps := ⟨_, by kernel_rfl, allQ_cons h1 (allQ_cons h2 (allQ_cons h3 (allQ_cons h2 (allQ_cons h4 (allQ_cons h5 (allQ_cons h2 (allQ_cons h3 (allQ_cons h2 (allQ_cons h4 (allQ_cons h6 (allQ_cons h2 (allQ_cons h3 (allQ_cons h2 (allQ_cons h4 (allQ_cons h7 (allQ_cons h8 (allQ_cons h9 (allQ_nil))))))))))))))))))⟩

theorem ss_exit (x y : List Rec) (k : Int)
 (h1 : ((decide (k < (((List.length x) : Nat) : Int))) = Bool.false)) :
 ∃ ps, stepPs Try.prog DF gS 100 (bodyN Try.f19 0) 100 (ssSn x y k).st [.is false] (.exit 0) ssEnd = some ps ∧ AllQ ps := ⟨_, by kernel_rfl, allQ_cons h1 (allQ_nil)⟩

theorem ss_len (x y : List Rec)
 (h1 : (((((List.length x) : Nat) : Int) != (((List.length y) : Nat) : Int)) = Bool.true)) :
 ∃ ps, runF Try.prog DF gS 100 Try.f19 [.one (.prs fSh x), .one (.prs fSh y)] [.is true] = some ((Go.Abs.AV.v (Go.Abs.A0.one (Go.Abs.Part.bool Bool.true Bool.false))), ps) ∧ AllQ ps := ⟨_, by kernel_rfl, allQ_cons h1 (allQ_nil)⟩

theorem ss_yes (x y : List Rec)
 (h1 : (((((List.length x) : Nat) : Int) != (((List.length y) : Nat) : Int)) = Bool.false))
 (h2 : SumOK Try.prog DF (bodyN Try.f19 0) (loopL DF (ssSn x y (0 : Nat)) (.exit 0) ssEnd)) :
 ∃ ps, runF Try.prog DF gS 100 Try.f19 [.one (.prs fSh x), .one (.prs fSh y)] [.is false, .loop (loopL DF (ssSn x y (0 : Nat)) (.exit 0) ssEnd)] = some ((Go.Abs.AV.v (Go.Abs.A0.one (Go.Abs.Part.bool Bool.true Bool.true))), ps) ∧ AllQ ps := ⟨_, by kernel_rfl, allQ_cons h1 (allQ_cons h2 (allQ_cons (show (x = x) from rfl) (allQ_cons (show (y = y) from rfl) (allQ_cons (show ((((List.length x) : Nat) : Int) = (((List.length x) : Nat) : Int)) from rfl) (allQ_cons (show ((0 : Int) = (((0 : Nat) : Nat) : Int)) from by decide) (allQ_nil))))))⟩

theorem ss_no (x y : List Rec)
 (h1 : (((((List.length x) : Nat) : Int) != (((List.length y) : Nat) : Int)) = Bool.false))
 (h2 : SumOK Try.prog DF (bodyN Try.f19 0) (loopL DF (ssSn x y (0 : Nat)) .ret ssNo)) :
 ∃ ps, runF Try.prog DF gS 100 Try.f19 [.one (.prs fSh x), .one (.prs fSh y)] [.is false, .loop (loopL DF (ssSn x y (0 : Nat)) .ret ssNo)] = some ((Go.Abs.AV.v (Go.Abs.A0.one (Go.Abs.Part.bool Bool.true Bool.false))), ps) ∧ AllQ ps := ⟨_, by kernel_rfl, allQ_cons h1 (allQ_cons h2 (allQ_cons (show (x = x) from rfl) (allQ_cons (show (y = y) from rfl) (allQ_cons (show ((((List.length x) : Nat) : Int) = (((List.length x) : Nat) : Int)) from rfl) (allQ_cons (show ((0 : Int) = (((0 : Nat) : Nat) : Int)) from by decide) (allQ_nil))))))⟩

def cpSn (x rs : List Rec) (k : Int) : Sn DF.τ where
  slots := [(0, .v (.one (.prs fSh x))), (3, .v (.one (.own 0))), (7, .v (.one (.int .i64 false x.length))), (8, .v (.one (.int .i64 false k)))]
  boxes := [(0, imB rs)]
  nt := 33
def cpEnd (rs : List Rec) : Sn DF.τ where
  slots := [(3, .v (.one (.own 0)))]
  boxes := [(0, imB rs)]
  nt := 33
theorem cp_step (x rs rs' : List Rec) (k k' : Int)
 (h1 : ((decide (k < (((List.length x) : Nat) : Int))) = Bool.true))
 (h2 : ((0 : Int) ≤ k))
 (h3 : (k < (((List.length x) : Nat) : Int)))
 (h4 : ((List.length (Go.Abs.recW (List.getD x (Int.toNat k) ([] : List (Abs.Fd))) ((0 : Nat) + (1 : Nat)))) ≤ (281474976710656 : Nat)))
 (h5 : ((((List.length rs) + (1 : Nat)) * (48 : Nat)) ≤ (140737488355328 : Nat)))
 (h6 : (((List.length rs) + (1 : Nat)) ≤ (9223372036854775807 : Nat)))
 (h7 : (Go.Abs.InI64 (k + (1 : Int))))
 (h8 : ((k + (1 : Int)) = k'))
 (h9 : ((rs ++ [[(Go.Abs.Fd.s (Go.Abs.recS (List.getD x (Int.toNat k) ([] : List (Abs.Fd))) (0 : Nat))), (Go.Abs.Fd.w (Go.Abs.recW (List.getD x (Int.toNat k) ([] : List (Abs.Fd))) ((0 : Nat) + (1 : Nat)))), (Go.Abs.Fd.i (Go.Abs.recI (List.getD x (Int.toNat k) ([] : List (Abs.Fd))) (((0 : Nat) + (1 : Nat)) + (1 : Nat))))]]) = rs')) :
 ∃ ps, stepPs Try.prog DF gS 100 (bodyN Try.f28 0) 100 (cpSn x rs k).st [.is true] .normal (cpSn x rs' k') = some ps ∧ AllQ ps := ⟨_, by kernel_rfl, allQ_cons h1 (allQ_cons h2 (allQ_cons h3 (allQ_cons h2 (allQ_cons h3 (allQ_cons h4 (allQ_cons h2 (allQ_cons h3 (allQ_cons h5 (allQ_cons h6 (allQ_cons h7 (allQ_cons (show (x = x) from rfl) (allQ_cons (show ((((List.length x) : Nat) : Int) = (((List.length x) : Nat) : Int)) from rfl) (allQ_cons h8 (allQ_cons h9 (allQ_nil)))))))))))))))⟩

theorem cp_exit (x rs : List Rec) (k : Int)
 (h1 : ((decide (k < (((List.length x) : Nat) : Int))) = Bool.false)) :
 ∃ ps, stepPs Try.prog DF gS 100 (bodyN Try.f28 0) 100 (cpSn x rs k).st [.is false] (.exit 0) (cpEnd rs) = some ps ∧ AllQ ps := ⟨_, by kernel_rfl, allQ_cons h1 (allQ_cons (show (rs = rs) from rfl) (allQ_nil))⟩

theorem cp_run (x rs : List Rec)
 (h1 : SumOK Try.prog DF (bodyN Try.f28 0) (loopL DF (cpSn x [] (0 : Nat)) (.exit 0) (cpEnd rs))) :
 ∃ ps, runO Try.prog DF gS 100 Try.f28 ([], [.one (.prs fSh x)]) [.loop (loopL DF (cpSn x [] (0 : Nat)) (.exit 0) (cpEnd rs))] (.v (.one (.own 0))) [imB rs] = some ps ∧ AllQ ps := ⟨_, by kernel_rfl, allQ_cons h1 (allQ_cons (show (x = x) from rfl) (allQ_cons (show ((((List.length x) : Nat) : Int) = (((List.length x) : Nat) : Int)) from rfl) (allQ_cons (show ((0 : Int) = (((0 : Nat) : Nat) : Int)) from by decide) (allQ_cons (show (([] : List (Rec)) = ([] : List (Rec))) from rfl) (allQ_cons (show (rs = rs) from rfl) (allQ_nil))))))⟩

/-! What they say -/

theorem first_rec : ∀ {x y : List Rec}, x.length = y.length → x.map canonR ≠ y.map canonR → ∃ n, n < x.length ∧ canonR (x.getD n []) ≠ canonR (y.getD n []) ∧ ∀ k, k < n → canonR (x.getD k []) = canonR (y.getD k [])
  | [], [], _, h => (h rfl).elim
  | [], _ :: _, h, _ => by simp at h
  | _ :: _, [], h, _ => by simp at h
  | a :: x, b :: y, hl, h => by
    by_cases hab : canonR a = canonR b
    · have h2 : x.map canonR ≠ y.map canonR := fun e => h (by rw [List.map_cons, List.map_cons, hab, e])
      obtain ⟨n, h3, h4, h5⟩ := first_rec (by simpa using hl) h2
      refine ⟨n + 1, by simp; omega, by simpa using h4, fun k hk => ?_⟩
      cases k with
      | zero => simpa using hab
      | succ k => simpa using h5 k (by omega)
    · exact ⟨0, by simp, by simpa using hab, fun k hk => by omega⟩

theorem canon_at {x y : List Rec} (hl : x.length = y.length) (h : x.map canonR = y.map canonR) {k : Nat} (hk : k < x.length) : canonR (x.getD k []) = canonR (y.getD k []) := by
  have h1 : (x.map canonR)[k]? = (y.map canonR)[k]? := by rw [h]
  rw [List.getElem?_map, List.getElem?_map, List.getElem?_eq_getElem hk, List.getElem?_eq_getElem (by omega)] at h1
  rw [List.getD_eq_getElem?_getD, List.getD_eq_getElem?_getD, List.getElem?_eq_getElem hk, List.getElem?_eq_getElem (by omega)]
  exact Option.some.inj h1

/-- Bytes that are no longer than what can be read. -/
def RowsOK (ll : List Rec) : Prop := ll.length ≤ 2932031007400 ∧ ∀ r ∈ ll, (recW r 1).length ≤ 140737488355328
theorem rows_at {ll : List Rec} (h : RowsOK ll) (k : Nat) : (recW (ll.getD k []) 1).length ≤ 140737488355328 := by
  by_cases hk : k < ll.length
  · rw [List.getD_eq_getElem?_getD, List.getElem?_eq_getElem hk]
    exact h.2 _ (List.getElem_mem hk)
  · rw [List.getD_eq_getElem?_getD, List.getElem?_eq_none (by omega)]
    exact Nat.zero_le _

def prsOf : Part DF.τ → Option (List Rec)
  | .prs sh ll => bif shEq sh fSh then some ll else none
  | .nil => some []
  | _ => none
def same17D : FnD DF
  | [.one (.prs sh x), .one (.prs sh' y)] => bif shEq sh fSh && shEq sh' fSh then some (.v (.one (.bool false (decide (x.map canonR = y.map canonR)))), [RowsOK x, RowsOK y]) else none
  | _ => none

theorem ss_rd {x y : List Rec} (hx : RowsOK x) (hy : RowsOK y) (hl : x.length = y.length) {k : Nat} (hk : k < x.length) (h : canonR (x.getD k []) = canonR (y.getD k [])) :
    ∃ fuel nid ds ps, stepPs Try.prog DF gS fuel (bodyN Try.f19 0) nid (ssSn x y k).st ds .normal (ssSn x y ((k + 1 : Nat) : Int)) = some ps ∧ AllQ ps := by
  have hx1 := hx.1
  have h1 := rows_at hx k
  have h2 := rows_at hy k
  simp only [canonR, List.cons.injEq, Fd.s.injEq, Fd.w.injEq, Fd.i.injEq, and_true] at h
  exact ⟨_, _, _, ss_step x y k _ (decide_eq_true (by omega)) (by omega) (by omega) (by omega) (by rw [Int.toNat_natCast, decide_eq_true h.1]; rfl) (by rw [Int.toNat_natCast]; exact bne_eq_false_iff_eq.2 h.2.2) (decide_eq_true (by rw [Int.toNat_natCast]; exact h.2.1)) (by rw [Int.toNat_natCast]; exact Nat.le_trans h1 (by decide)) (by rw [Int.toNat_natCast]; exact Nat.le_trans h2 (by decide)) ⟨by omega, by omega⟩ rfl⟩

theorem same17_ok : FnOK Try.prog DF 19 same17D := by
  refine fnOK_of gS_ok mixed Try.func19 (enters_of Try.func19 (by kernel_rfl) rfl) ?_
  intro xs r ps h hps
  unfold same17D at h
  split at h
  · rename_i sh x sh' y
    cases hb : (shEq sh fSh && shEq sh' fSh) <;> simp only [hb, cond_true, cond_false] at h
    · cases h
    rw [Bool.and_eq_true] at hb
    obtain rfl := shEq_eq hb.1
    obtain rfl := shEq_eq hb.2
    simp only [Option.some.injEq, Prod.mk.injEq] at h
    obtain ⟨rfl, rfl⟩ := h
    have hx : RowsOK x := hps (RowsOK x) (by simp)
    have hy : RowsOK y := hps (RowsOK y) (by simp)
    have hx1 := hx.1
    by_cases hl : x.length = y.length
    · have hne : (((x.length : Nat) : Int) != ((y.length : Nat) : Int)) = false := by rw [hl]; simp
      by_cases he : x.map canonR = y.map canonR
      · obtain ⟨ps, p1, p2⟩ := ss_yes x y hne (sum_loop gS_ok mixed (c := bodyN Try.f19 0) (fun k => ssSn x y k) x.length (e := .exit 0) (s := ssEnd) rfl (fun k hk => ss_rd hx hy hl hk (canon_at hl he hk)) ⟨_, _, _, ss_exit x y _ (decide_eq_false (by omega))⟩)
        exact ⟨_, 100, _, _, _, fun w vs h => h, p1, p2, fun E v hv => by rw [decide_eq_true he]; exact hv⟩
      · obtain ⟨n, hn, hd, hb⟩ := first_rec hl he
        have h1 := rows_at hx n
        have h2 := rows_at hy n
        have hs : SumOK Try.prog DF (bodyN Try.f19 0) (loopL DF (ssSn x y (0 : Nat)) .ret ssNo) := by
          refine sum_loop gS_ok mixed (c := bodyN Try.f19 0) (fun k => ssSn x y k) n (e := .ret) (s := ssNo) rfl (fun k hk => ss_rd hx hy hl (by omega) (hb k hk)) ?_
          by_cases d1 : recS (x.getD n []) 0 = recS (y.getD n []) 0
          · by_cases d2 : recI (x.getD n []) 2 = recI (y.getD n []) 2
            · by_cases d3 : recW (x.getD n []) 1 = recW (y.getD n []) 1
              · exact (hd (by unfold canonR; rw [d1, d2, d3])).elim
              · exact ⟨_, _, _, ss_data x y n (decide_eq_true (by omega)) (by omega) (by omega) (by omega) (by rw [Int.toNat_natCast, decide_eq_true d1]; rfl) (by rw [Int.toNat_natCast]; exact bne_eq_false_iff_eq.2 d2) (decide_eq_false (by rw [Int.toNat_natCast]; exact d3)) (by rw [Int.toNat_natCast]; exact Nat.le_trans h1 (by decide)) (by rw [Int.toNat_natCast]; exact Nat.le_trans h2 (by decide))⟩
            · exact ⟨_, _, _, ss_safe x y n (decide_eq_true (by omega)) (by omega) (by omega) (by omega) (by rw [Int.toNat_natCast, decide_eq_true d1]; rfl) (by rw [Int.toNat_natCast]; exact bne_iff_ne.2 d2)⟩
          · exact ⟨_, _, _, ss_name x y n (decide_eq_true (by omega)) (by omega) (by omega) (by omega) (by rw [Int.toNat_natCast, decide_eq_false d1]; rfl)⟩
        obtain ⟨ps, p1, p2⟩ := ss_no x y hne hs
        exact ⟨_, 100, _, _, _, fun w vs h => h, p1, p2, fun E v hv => by rw [decide_eq_false he]; exact hv⟩
    · have hne : (((x.length : Nat) : Int) != ((y.length : Nat) : Int)) = true := bne_iff_ne.2 (by omega)
      obtain ⟨ps, p1, p2⟩ := ss_len x y hne
      refine ⟨_, 100, _, _, _, fun w vs h => h, p1, p2, fun E v hv => ?_⟩
      rw [decide_eq_false (fun e => hl (by have := congrArg List.length e; simpa using this))]
      exact hv
  · cases h

noncomputable def copy17R := mkF DF Try.f28.ntmps (fun bs xs => match bs, xs with | [], [.one p] => prsOf p | _, _ => none) (fun x => ([], [.one (.prs fSh x)])) (fun x => some (.v (.one (.own 0)), [imB (x.map canonR)], [RowsOK x]))
theorem copy17_ok : OpOK Try.prog DF 28 (withNew copy17R) := by
  refine opOK_mkR mixed Try.func28 (enters_of Try.func28 (by kernel_rfl) rfl) (fun bs xs t h => by
    split at h
    · rfl
    · cases h) ?_
  intro x r' ns ps h hps
  simp only [Option.some.injEq, Prod.mk.injEq] at h
  obtain ⟨rfl, rfl, rfl⟩ := h
  have hx : RowsOK x := hps (RowsOK x) (by simp)
  have hx1 := hx.1
  refine ⟨_, _, _, gS_ok, cp_run x _ ?_⟩
  have := sum_loop gS_ok mixed (c := bodyN Try.f28 0) (fun k => cpSn x ((x.map canonR).take k) k) x.length (e := .exit 0) (s := cpEnd (x.map canonR)) rfl (fun k hk => ?_) ?_
  · exact this
  · have h1 := rows_at hx k
    have hg : (x.map canonR)[k]? = some (canonR (x.getD k [])) := by
      rw [List.getElem?_map, List.getD_eq_getElem?_getD, List.getElem?_eq_getElem hk]
      rfl
    have hl : ((x.map canonR).take k).length = k := by rw [List.length_take, List.length_map]; omega
    exact ⟨_, _, _, cp_step x _ _ k _ (decide_eq_true (by omega)) (by omega) (by omega) (by rw [Int.toNat_natCast]; exact Nat.le_trans h1 (by decide)) (by rw [hl]; omega) (by rw [hl]; omega) ⟨by omega, by omega⟩ rfl (by rw [List.take_add_one, hg]; rfl)⟩
  · have : (x.map canonR).take x.length = x.map canonR := List.take_of_length_le (by rw [List.length_map]; exact Nat.le_refl _)
    rw [this]
    exact ⟨_, _, _, cp_exit x _ _ (decide_eq_false (by omega))⟩

/-- A file that came in. -/
def FileIn (r : Rec) : Prop := (recS r 0).size ≤ 9223372036854775807 ∧ (recW r 1).length ≤ 140737488351232 ∧ InB (recW r 1) ∧ r = canonR r

end Go.Num

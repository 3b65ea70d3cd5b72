/- What the laws' claims have in common: how the arguments are read, and that they read behind the call as they did ahead of it. -/
import Derived.Test.YtakigppkbolmnaaLib
import Derived.Test.YtakigppkbolmnaaRows
import Derived.WalkKit
import Derived.ProofKit
import Derived.OpenShut
import Derived.ShutString
import Derived.SizedLaws
import Derived.Carry
namespace Go.Laws
open Go.Abs Go.Proofs Go.Proofs.Ytakigppkbolmnaa Go.ChangeShapes Go.WideShapes Go.ChangeAt Go.RowKit Go.Num

theorem own : ownKnob Try.prog.godebug = none := by kernel_rfl
theorem laidOut : laidOutB Try.prog = true := by kernel_rfl

/-- What lies below reads as it did. -/
theorem trodAll_below {H : Type} {enc : TypeId × Value → H} {P : Program} (hl : laidOutB P = true) {W W' : World} (hb : Below W.heap.size W W') :
    ∀ {ts : List TypeId} {vs : List Value} {ds : List (DataW H)} {ps : List MemPlace}, (ts.all fun t => P.readableRec t && decide (t < P.types.size)) = true →
      DataW.TrodAll enc P W 0 (fun _ => true) true ts vs ds ps → (∀ x ∈ ps, x.block < W.heap.size) → DataW.TrodAll enc P W' 0 (fun b => decide (b < W.heap.size)) true ts vs ds ps
  | [], [], [], _, _, h, _ => h
  | [], [], _ :: _, _, _, h, _ => h.elim
  | [], _ :: _, _, _, _, h, _ => h.elim
  | _ :: _, [], _, _, _, h, _ => h.elim
  | _ :: _, _ :: _, [], _, _, h, _ => h.elim
  | t :: ts, v :: vs, d :: ds, ps, hr, h, hlt => by
    obtain ⟨p, q, h1, h2, rfl⟩ := h
    simp only [List.all_cons, Bool.and_eq_true, decide_eq_true_eq] at hr
    exact ⟨p, q, Below.trod hl hr.1.1 hr.1.2 h1 hb (fun x hx => hlt x (List.mem_append_left _ hx)), trodAll_below hl hb (by simpa using hr.2) h2 (fun x hx => hlt x (List.mem_append_right _ hx)), rfl⟩

/-- What is asked behind a law's call. -/
theorem law_post {H : Type} {enc : TypeId × Value → H} {P : Program} {fn : Func} {s : ChangeSpec} {W W' : World} {args : Array Value} {ds : List (DataW H)} {before : List MemPlace} {tb : TypeId} (hl : laidOutB P = true)
    (hp : (fn.params.toList.all fun t => P.readableRec t && decide (t < P.types.size)) = true) (hs : s.vars = []) (hfn : s.fn H (ds ++ []) = { results := [.lit (.bool true)], args := ds })
    (hr : fn.resultTypes = #[tb]) (htb : P.underlying tb = some .bool) (hW : DataW.Whole enc P fn.params.toList s.vars false W args.toList ds [] before) (hb : Below W.heap.size W W') :
    s.post enc P fn false true false false W args (.bool true) W' := by
  have hlt : ∀ p ∈ before, p.block < W.heap.size := fun p hp => hW.lt p hp
  obtain ⟨p, q, hA, hV, hpq, hfz, hnd⟩ := id hW
  have hq : q = [] := by
    rw [hs] at hV
    exact hV
  subst hq
  rw [List.append_nil] at hpq
  subst hpq
  refine ⟨ds, [], before, [], before, [], hW, ?_, ?_, ?_, World.keptBut_mono (fun x hx => ⟨hx, .inr (.inl hx)⟩) (hb.frame (· ∈ before)), fun h => by cases h⟩
  · rw [hfn, hr]
    exact trodAll_cons_mk (shut_bool htb _) trodAll_mk0
  · rw [hfn]
    exact trodAll_below hl hb hp hA hlt
  · rw [hfn, hs]
    rfl

theorem no_spot {W : World} {a : Addr} {v : Value} (h : W.cell? a = some v) : a.spot = none := by
  unfold World.cell? at h
  split at h
  · split at h
    · cases h
    · rename_i hsp
      simpa using hsp
  · cases h

theorem add_plain {a : Addr} (hs : a.spot = none) (i : Nat) : a.add i = ⟨a.block, a.off + i, none⟩ := by
  unfold Addr.add
  split
  · rename_i h0
    subst h0
    cases a
    simp only at hs
    subst hs
    rfl
  · rfl

/-- Cells that hold a slice of integers. -/
theorem cells_words {H : Type} {enc : TypeId × Value → H} {P : Program} {W : World} {t e : TypeId} {k : IntKind} {fuel : Nat} {cs : List Value} {x : DataW H × List MemPlace} (ht : P.underlying t = some (.slice e)) (he : P.underlying e = some (.int k)) (hc : P.cellsOf e = 1)
    (h : DataW.trod enc P W 0 (fun _ => true) true fuel t cs = some x) (hr : ∀ n ∈ x.1.weights P t, n ≤ reachBytes) :
    ∃ (v : Value) (l : List Int), cs = [v] ∧ SlRel (fun _ => False) W k l v ∧ v.oneCell' = true ∧ (∀ n ∈ l, (Lit.int k n).wf = true) ∧ l.length * P.bytesOf e ≤ reachBytes ∧
      ((l = [] ∧ x.1 = .nil) ∨ ∃ rest, x.1 = .slice (lits k l) rest) := by
  rcases open_ints ht he hc h with ⟨h1, h2⟩ | ⟨a, len, cap, zs, h1, _, h3, h4, h5, h6, h7, h8⟩
  · exact ⟨.slice none 0 0, [], h1, ⟨none, 0, rfl, Nat.le_refl _, Nat.zero_le _, fun _ => rfl, (fun i hi => by cases hi)⟩, rfl, (fun n hn => by cases hn), by simp, .inl ⟨rfl, by rw [h2]⟩⟩
  · subst h6
    simp only [if_true] at h5
    have hl : (zs.take len).length = len := by rw [List.length_take]; omega
    refine ⟨_, zs.take len, h1, ⟨some a, cap, by rw [hl], by omega, h4, (fun h => by cases h), fun i hi => ?_⟩, rfl, fun n hn => h8 n (List.mem_of_mem_take hn), ?_, .inr ⟨_, rfl⟩⟩
    · rw [hl] at hi
      have h0 := h7 0 (by omega)
      rw [Addr.add, if_pos rfl] at h0
      have hs := no_spot h0
      have h9 := h7 i (by omega)
      rw [add_plain hs] at h9
      refine ⟨a.block, a.off, ?_, fun h => h, ?_⟩
      · cases a
        simp only at hs
        subst hs
        rfl
      · rw [h9]
        congr 2
        rw [List.getD_eq_getElem?_getD, List.getD_eq_getElem?_getD, List.getElem?_take_of_lt hi]
    · have h10 := hr ((zs.take len).length * P.bytesOf e + (zs.drop len).length * P.bytesOf e) (by simp only [DataW.weights, ht, lits, List.length_map, Nat.add_mul]; exact List.mem_cons_self ..)
      omega

theorem choose_list {α : Type} {p : Nat → α → Prop} : ∀ {n : Nat}, (∀ i, i < n → ∃ x, p i x) → ∃ l : List α, l.length = n ∧ ∀ i x, l[i]? = some x → p i x
  | 0, _ => ⟨[], rfl, fun i x h => by cases h⟩
  | n + 1, h => by
    obtain ⟨l, h1, h2⟩ := choose_list (n := n) fun i hi => h i (by omega)
    obtain ⟨x, hx⟩ := h n (by omega)
    refine ⟨l ++ [x], by simp [h1], fun i y hy => ?_⟩
    by_cases hi : i < l.length
    · rw [List.getElem?_append_left hi] at hy
      exact h2 i y hy
    · rw [List.getElem?_append_right (by omega)] at hy
      have hi' : i - l.length = 0 := by
        have := (List.getElem?_eq_some_iff.1 hy).1
        simp at this
        omega
      rw [hi'] at hy
      simp only [List.getElem?_cons_zero, Option.some.injEq] at hy
      subst hy
      rw [show i = n from by omega]
      exact hx

theorem weights_all {H : Type} {P : Program} {e : TypeId} {d : DataW H} : ∀ {l : List (DataW H)}, d ∈ l → ∀ n ∈ d.weights P e, n ∈ DataW.weightsAll P e l
  | [], h, _, _ => by cases h
  | x :: l, h, n, hn => by
    simp only [DataW.weightsAll, List.mem_append]
    rcases List.mem_cons.1 h with rfl | h
    · exact .inl hn
    · exact .inr (weights_all h n hn)

/-- Cells that hold a slice of slices of integers. -/
theorem cells_wordss {H : Type} {enc : TypeId × Value → H} {P : Program} {W : World} {t u e : TypeId} {k : IntKind} {fuel : Nat} {cs : List Value} {x : DataW H × List MemPlace} (ht : P.underlying t = some (.slice u)) (hu : P.underlying u = some (.slice e)) (he : P.underlying e = some (.int k)) (hcu : P.cellsOf u = 1) (hc : P.cellsOf e = 1)
    (h : DataW.trod enc P W 0 (fun _ => true) true fuel t cs = some x) (hr : ∀ n ∈ x.1.weights P t, n ≤ reachBytes) :
    ∃ (v : Value) (ll : List (List Int)), cs = [v] ∧ SlsRel (fun _ => False) W k ll v ∧ v.oneCell' = true ∧ (∀ l ∈ ll, (∀ n ∈ l, (Lit.int k n).wf = true) ∧ l.length * P.bytesOf e ≤ reachBytes) ∧ ll.length * P.bytesOf u ≤ reachBytes ∧
      ((ll = [] ∧ x.1 = .nil) ∨ ∃ elems rest, x.1 = .slice elems rest ∧ elems.length = ll.length ∧ ∀ (i : Nat) l d, ll[i]? = some l → elems[i]? = some d → (l = [] ∧ d = .nil) ∨ ∃ r, d = .slice (lits k l) r) := by
  rcases DataW.trod_slice ht h with ⟨h1, h2⟩ | ⟨a, len, cap, elems, rest, m, _, h1, h2, _, h3, h4, h5, h6, h7, _⟩
  · exact ⟨.slice none 0 0, [], h1, ⟨none, 0, rfl, Nat.le_refl _, Nat.zero_le _, fun _ => rfl, (fun i hi => by cases hi)⟩, rfl, (fun n hn => by cases hn), by simp, .inl ⟨rfl, by rw [h2]⟩⟩
  · subst h2
    simp only [DataW.weights, ht] at hr
    have each : ∀ i, i < len → ∃ l : List Int, ∃ v y, elems[i]? = some y ∧ W.cell? (a.add i) = some v ∧ SlRel (fun _ => False) W k l v ∧ (∀ n ∈ l, (Lit.int k n).wf = true) ∧ l.length * P.bytesOf e ≤ reachBytes ∧ ((l = [] ∧ y.1 = .nil) ∨ ∃ r, y.1 = .slice (lits k l) r) := by
      intro i hi
      have he' := h6 i hi
      have hy : elems[i]? = some (elems[i]'(by omega)) := List.getElem?_eq_getElem (by omega)
      rw [hy, hcu, Nat.mul_one, Option.bind_eq_some_iff] at he'
      obtain ⟨cs', hcs, hy'⟩ := he'
      obtain ⟨v, l, g1, g2, _, g4, g5, g6⟩ := cells_words hu he hc hy' (fun n hn => hr n (List.mem_cons_of_mem _ (List.mem_append_left _ (weights_all (List.mem_map_of_mem (List.getElem_mem (by omega))) n hn))))
      subst g1
      exact ⟨l, v, _, hy, cell_of_cells?_one hcs, g2, g4, g5, g6⟩
    obtain ⟨ll, hl1, hl2⟩ := choose_list each
    refine ⟨_, ll, h1, ⟨some a, cap, by rw [hl1], by omega, h4, (fun h => by cases h), fun i hi => ?_⟩, rfl, fun l hl => ?_, ?_, .inr ⟨_, _, rfl, by rw [List.length_map, h5, hl1], fun i l d hl hd => ?_⟩⟩
    · obtain ⟨v, y, _, g2, g3, _⟩ := hl2 i (ll.getD i []) (by rw [List.getD_eq_getElem?_getD, List.getElem?_eq_getElem hi]; rfl)
      obtain ⟨v0, _, _, g0, _⟩ := hl2 0 _ (List.getElem?_eq_getElem (show 0 < ll.length by omega))
      rw [Addr.add, if_pos rfl] at g0
      have hs := no_spot g0
      rw [add_plain hs] at g2
      refine ⟨a.block, a.off, v, ?_, fun h => h, g2, g3⟩
      cases a
      simp only at hs
      subst hs
      rfl
    · obtain ⟨i, hi⟩ := List.getElem?_of_mem hl
      obtain ⟨_, _, _, _, _, g4, g5, _⟩ := hl2 i l hi
      exact ⟨g4, g5⟩
    · have := hr _ (List.mem_cons_self ..)
      rw [List.length_map, List.length_map, Nat.add_mul] at this
      rw [hl1, ← h5]
      omega
    · obtain ⟨_, y, g1, _, _, _, _, g6⟩ := hl2 i l hl
      rw [List.getElem?_map, g1] at hd
      simp only [Option.map_some, Option.some.injEq] at hd
      subst hd
      exact g6

/-- A slice of integers that came in. -/
theorem open_words {H : Type} {enc : TypeId × Value → H} {P : Program} {W : World} {base : Nat} {t e : TypeId} {k : IntKind} {v : Value} {d : DataW H} {ps : List MemPlace} (ht : P.underlying t = some (.slice e)) (he : P.underlying e = some (.int k)) (hc : P.cellsOf e = 1)
    (hval : Value.okWide P W .any base t v) (hd : DataW.Trod enc P W 0 (fun _ => true) true t v d ps) (hr : ∀ n ∈ d.weights P t, n ≤ reachBytes) :
    ∃ l : List Int, SlRel (fun _ => False) W k l v ∧ v.oneCell' = true ∧ (∀ n ∈ l, (Lit.int k n).wf = true) ∧ l.length * P.bytesOf e ≤ reachBytes ∧ ((l = [] ∧ d = .nil) ∨ ∃ rest, d = .slice (lits k l) rest) := by
  obtain ⟨a0, len, cap, rfl⟩ := okWide_slice ht hval
  obtain ⟨fuel, hf⟩ := hd
  obtain ⟨v, l, h1, h2, h3, h4, h5, h6⟩ := cells_words ht he hc hf hr
  have h1' : [Value.slice a0 len cap] = [v] := h1
  simp only [List.cons.injEq, and_true] at h1'
  subst h1'
  exact ⟨l, h2, h3, h4, h5, h6⟩

/-- A slice of slices of integers that came in. -/
theorem open_wordss {H : Type} {enc : TypeId × Value → H} {P : Program} {W : World} {base : Nat} {t u e : TypeId} {k : IntKind} {v : Value} {d : DataW H} {ps : List MemPlace} (ht : P.underlying t = some (.slice u)) (hu : P.underlying u = some (.slice e)) (he : P.underlying e = some (.int k)) (hcu : P.cellsOf u = 1) (hc : P.cellsOf e = 1)
    (hval : Value.okWide P W .any base t v) (hd : DataW.Trod enc P W 0 (fun _ => true) true t v d ps) (hr : ∀ n ∈ d.weights P t, n ≤ reachBytes) :
    ∃ ll : List (List Int), SlsRel (fun _ => False) W k ll v ∧ v.oneCell' = true ∧ (∀ l ∈ ll, (∀ n ∈ l, (Lit.int k n).wf = true) ∧ l.length * P.bytesOf e ≤ reachBytes) ∧ ll.length * P.bytesOf u ≤ reachBytes ∧
      ((ll = [] ∧ d = .nil) ∨ ∃ elems rest, d = .slice elems rest ∧ elems.length = ll.length ∧ ∀ (i : Nat) l d, ll[i]? = some l → elems[i]? = some d → (l = [] ∧ d = .nil) ∨ ∃ r, d = .slice (lits k l) r) := by
  obtain ⟨a0, len, cap, rfl⟩ := okWide_slice ht hval
  obtain ⟨fuel, hf⟩ := hd
  obtain ⟨v, ll, h1, h2, h3, h4, h5, h6⟩ := cells_wordss ht hu he hcu hc hf hr
  have h1' : [Value.slice a0 len cap] = [v] := h1
  simp only [List.cons.injEq, and_true] at h1'
  subst h1'
  exact ⟨ll, h2, h3, h4, h5, h6⟩

/-- Of which bulk slices are. -/
theorem bulk_lits {H : Type} (k : IntKind) : ∀ l : List Int, Rows.uptoBulkAll (lits (H := H) k l) = l.length
  | [] => by simp [lits, Rows.uptoBulkAll]
  | x :: l => by
    have := bulk_lits (H := H) k l
    simp only [lits] at this
    simp only [lits, List.map_cons, Rows.uptoBulkAll, Rows.uptoBulk, List.length_cons, this]
    omega

theorem bulk_words {H : Type} {k : IntKind} {l : List Int} {d : DataW H} (h : (l = [] ∧ d = .nil) ∨ ∃ rest, d = .slice (lits k l) rest) : l.length + 1 ≤ Rows.uptoBulk d := by
  rcases h with ⟨rfl, rfl⟩ | ⟨rest, rfl⟩
  · simp [Rows.uptoBulk]
  · simp only [Rows.uptoBulk, bulk_lits]
    omega

theorem bulk_each {H : Type} {k : IntKind} : ∀ {ll : List (List Int)} {elems : List (DataW H)}, elems.length = ll.length → (∀ (i : Nat) l d, ll[i]? = some l → elems[i]? = some d → (l = [] ∧ d = .nil) ∨ ∃ r, d = .slice (lits k l) r) →
    ll.flatten.length + ll.length ≤ Rows.uptoBulkAll elems
  | [], _, _, _ => by simp
  | l :: ll, d :: ds, hl, h => by
    have h1 := bulk_words (h 0 l d rfl rfl)
    have h2 := bulk_each (ll := ll) (elems := ds) (by simpa using hl) (fun i l' d' hl hd => h (i + 1) l' d' (by simpa using hl) (by simpa using hd))
    simp only [List.flatten_cons, List.length_append, List.length_cons, Rows.uptoBulkAll]
    omega
  | _ :: _, [], hl, _ => by cases hl

theorem bulk_wordss {H : Type} {k : IntKind} {ll : List (List Int)} {d : DataW H} (h : (ll = [] ∧ d = .nil) ∨ ∃ elems rest, d = .slice elems rest ∧ elems.length = ll.length ∧ ∀ (i : Nat) l d, ll[i]? = some l → elems[i]? = some d → (l = [] ∧ d = .nil) ∨ ∃ r, d = .slice (lits k l) r) :
    ll.flatten.length + ll.length + 1 ≤ Rows.uptoBulk d := by
  rcases h with ⟨rfl, rfl⟩ | ⟨elems, rest, rfl, h1, h2⟩
  · simp [Rows.uptoBulk]
  · have := bulk_each h1 h2
    simp only [Rows.uptoBulk]
    omega

theorem bulk_part {H : Type} {d : DataW H} {l : List (DataW H)} (h : d ∈ l) : Rows.uptoBulk d ≤ Rows.uptoBulkAll l := by
  induction l with
  | nil => cases h
  | cons x r ih =>
    simp only [Rows.uptoBulkAll]
    rcases List.mem_cons.1 h with e | e
    · subst e; omega
    · have := ih e; omega

theorem wf_u8 {n : Int} (h : (Lit.int .u8 n).wf = true) : 0 ≤ n ∧ n < 256 := by
  have h1 : IntKind.u8.min = 0 := rfl
  have h2 : IntKind.u8.max = 255 := rfl
  simp only [Lit.wf, Bool.and_eq_true, decide_eq_true_eq] at h
  omega
theorem wf_u32 {n : Int} (h : (Lit.int .u32 n).wf = true) : 0 ≤ n ∧ n < 4294967296 := by
  have h1 : IntKind.u32.min = 0 := rfl
  have h2 : IntKind.u32.max = 4294967295 := rfl
  simp only [Lit.wf, Bool.and_eq_true, decide_eq_true_eq] at h
  omega
theorem wf_u64 {n : Int} (h : (Lit.int .u64 n).wf = true) : 0 ≤ n ∧ n < 18446744073709551616 := by
  have h1 : IntKind.u64.min = 0 := rfl
  have h2 : IntKind.u64.max = 18446744073709551615 := rfl
  simp only [Lit.wf, Bool.and_eq_true, decide_eq_true_eq] at h
  omega
theorem wf_u16 {n : Int} (h : (Lit.int .u16 n).wf = true) : 0 ≤ n ∧ n < 65536 := by
  have h1 : IntKind.u16.min = 0 := rfl
  have h2 : IntKind.u16.max = 65535 := rfl
  simp only [Lit.wf, Bool.and_eq_true, decide_eq_true_eq] at h
  omega
theorem wf_i64 {n : Int} (h : (Lit.int .i64 n).wf = true) : -9223372036854775808 ≤ n ∧ n ≤ 9223372036854775807 := by
  have h1 : IntKind.i64.min = -9223372036854775808 := rfl
  have h2 : IntKind.i64.max = 9223372036854775807 := rfl
  simp only [Lit.wf, Bool.and_eq_true, decide_eq_true_eq] at h
  omega

theorem one_words {D : Dom} {W : World} {k : IntKind} {l : List Int} {v : Value} (h : SlRel (fun _ => False) W k l v) (h1 : v.oneCell' = true) : A0Rel D (cenv W) (.one (.words k l)) v := ⟨h1, v, rfl, _, W, .inl ⟨rfl, rfl⟩, h⟩
theorem one_wordss {D : Dom} {W : World} {k : IntKind} {ll : List (List Int)} {v : Value} (h : SlsRel (fun _ => False) W k ll v) (h1 : v.oneCell' = true) : A0Rel D (cenv W) (.one (.wordss k ll)) v := ⟨h1, v, rfl, h⟩
theorem one_num {D : Dom} {W : World} {k : IntKind} {b : Bool} {n : Int} : A0Rel D (cenv W) (.one (.int k b n)) (.int k n) := ⟨rfl, rfl⟩
theorem rel_nil {D : Dom} {E : Env} : A0sRel D E [] [] := rfl
theorem rel_cons {D : Dom} {E : Env} {a : A0 D.τ} {v : Value} {xs : List (A0 D.τ)} {vs : List Value} (h : A0Rel D E a v) (k : A0sRel D E xs vs) : A0sRel D E (a :: xs) (v :: vs) := ⟨v, vs, rfl, h, k⟩

/-- A law that comes to true when it is carried out on descriptions. -/
theorem law_calls {P : Program} {D : Dom} {Γ : Gam D} (hΓ : GamOK P D Γ) (hm : P.follows .mixedOrders = true) {f : FuncId} {fn : Func} (hf : P.funcs[f]? = some fn) {fuel : Nat} {xs : List (A0 D.τ)} {ds : List (Dec D.τ)} {b : Bool} {ps : List Prop}
    (h : runF P D Γ fuel fn xs ds = some (.v (.one (.bool b true)), ps)) (hps : AllQ ps) {W : World} {vs : List Value} (hG : GlobAt D W) (hx : A0sRel D (cenv W) xs vs) :
    Calls P f vs.toArray W fun e w' => e = .returned (.bool true) ∧ Below W.heap.size W w' := by
  refine (runF_calls hΓ hm hf h hps hG hx).mono ?_
  rintro e w' ⟨v, he, ⟨ν, _, hr⟩, hb⟩
  have hv : v = .bool true := by
    obtain ⟨_, h2⟩ := hr
    simpa [PartRel] using h2
  subst hv
  exact ⟨he, hb⟩

end Go.Laws

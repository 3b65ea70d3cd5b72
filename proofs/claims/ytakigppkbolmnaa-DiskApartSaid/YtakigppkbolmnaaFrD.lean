/- Files and scripts of calls that came in. -/
import Derived.Test.YtakigppkbolmnaaFrame
import Derived.Test.YtakigppkbolmnaaR1
import Derived.Test.YtakigppkbolmnaaD17
namespace Go.Laws
open Go.Abs Go.Proofs Go.ChangeShapes Go.WideShapes Go.ChangeAt Go.RowKit Go.Num

theorem cells_int {H : Type} {enc : TypeId × Value → H} {P : Program} {W : World} {t : TypeId} {k : IntKind} {fuel : Nat} {cs : List Value} {x : DataW H × List MemPlace} (ht : P.underlying t = some (.int k)) (h : DataW.trod enc P W 0 (fun _ => true) true fuel t cs = some x) :
    ∃ n, cs = [.int k n] ∧ (Lit.int k n).wf = true := by
  obtain ⟨n, h1, _, h3⟩ := DataW.trod_int ht h
  exact ⟨n, h1, h3⟩

theorem cells_str {H : Type} {enc : TypeId × Value → H} {P : Program} {W : World} {t : TypeId} {fuel : Nat} {cs : List Value} {x : DataW H × List MemPlace} (ht : P.underlying t = some .string) (h : DataW.trod enc P W 0 (fun _ => true) true fuel t cs = some x) :
    ∃ s : ByteArray, cs = [.string s] ∧ s.size ≤ 9223372036854775807 := by
  obtain ⟨s, h1, _, h3⟩ := DataW.trod_string ht h
  exact ⟨s, h1, h3⟩

theorem sl_known {W : World} {k : IntKind} {l : List Int} {v : Value} (h : SlRel (fun _ => False) W k l v) : SlRel (fun b => ¬ (cenv W).σ.zm b) (cenv W).σ.zw k l v := by
  obtain ⟨ao, cap, e, h1, h2, h3, h4⟩ := h
  refine ⟨ao, cap, e, h1, h2, h3, fun i hi => ?_⟩
  obtain ⟨b, off, e1, _, e3⟩ := h4 i hi
  exact ⟨b, off, e1, fun hn => hn (World.block_lt_of_cell? _ _ e3), e3⟩

theorem three {α : Type} {cs : List α} {a b c : α} (hl : cs.length = 3) (ha : (cs.drop 0).take 1 = [a]) (hb : (cs.drop 1).take 1 = [b]) (hc : (cs.drop 2).take 1 = [c]) : cs = [a, b, c] := by
  match cs, hl with
  | [_, _, _], _ => simp_all
theorem six {α : Type} {cs : List α} {a b c d e f : α} (hl : cs.length = 6) (ha : (cs.drop 0).take 1 = [a]) (hb : (cs.drop 1).take 1 = [b]) (hc : (cs.drop 2).take 1 = [c]) (hd : (cs.drop 3).take 1 = [d]) (he : (cs.drop 4).take 1 = [e]) (hf : (cs.drop 5).take 1 = [f]) : cs = [a, b, c, d, e, f] := by
  match cs, hl with
  | [_, _, _, _, _, _], _ => simp_all

/-- Records that came in, in a row. -/
theorem open_rows {P : Program} {H : Type} {enc : TypeId × Value → H} {W : World} {base : Nat} {v : Value} {d : DataW H} {ps : List MemPlace} {t e : TypeId} {sh : List FK} {n : Nat} {good : Rec → Prop} (ht : P.underlying t = some (.slice e)) (hc : P.cellsOf e = n) (hn : rsz sh = n) (h1n : 0 < n)
    (elem : ∀ {fuel : Nat} {cs : List Value} {x : DataW H × List MemPlace}, DataW.trod enc P W 0 (fun _ => true) true fuel e cs = some x → (∀ n ∈ x.1.weights P e, n ≤ reachBytes) → ∃ r : Rec, RecRel (cenv W).σ sh 0 r cs ∧ good r ∧ cs.length = n)
    (hval : Value.okWide P W .any base t v) (hd : DataW.Trod enc P W 0 (fun _ => true) true t v d ps) (hr : ∀ n ∈ d.weights P t, n ≤ reachBytes) :
    ∃ sc : List Rec, A0Rel DF (cenv W) (.one (.prs sh sc)) v ∧ sc.length * P.bytesOf e ≤ reachBytes ∧ ∀ r ∈ sc, good r := by
  obtain ⟨a0, len0, cap0, rfl⟩ := okWide_slice ht hval
  obtain ⟨fuel, hf⟩ := hd
  rcases DataW.trod_slice ht hf with ⟨h1, h2⟩ | ⟨a, len, cap, elems, rest, m, _, h1, h2, _, h3, h4, h5, h6, h7, _⟩
  · have h1' : [Value.slice a0 len0 cap0] = [.slice none 0 0] := h1
    simp only [List.cons.injEq, and_true] at h1'
    rw [h1']
    exact ⟨[], ⟨rfl, _, rfl, none, 0, rfl, Nat.le_refl _, Nat.zero_le _, fun _ => rfl, fun i r hi => by cases hi⟩, by simp, fun r hr => by cases hr⟩
  · have h1' : [Value.slice a0 len0 cap0] = [.slice (some a) len cap] := h1
    simp only [List.cons.injEq, and_true] at h1'
    rw [h1']
    simp only [Prod.mk.injEq] at h2
    obtain ⟨rfl, _⟩ := h2
    simp only [DataW.weights, ht] at hr
    have each : ∀ i, i < len → ∃ r : Rec, ∃ cs, W.cells? 0 (a.add (i * n)) n = some cs ∧ RecRel (cenv W).σ sh 0 r cs ∧ good r ∧ cs.length = n := by
      intro i hi
      have he' := h6 i hi
      have hy : elems[i]? = some (elems[i]'(by omega)) := List.getElem?_eq_getElem (by omega)
      rw [hy, hc, Option.bind_eq_some_iff] at he'
      obtain ⟨cs', hcs, hy'⟩ := he'
      obtain ⟨r, g1, g2, g3⟩ := elem hy' (fun n hn => hr n (List.mem_cons_of_mem _ (List.mem_append_left _ (weights_all (List.mem_map_of_mem (List.getElem_mem (by omega))) n hn))))
      exact ⟨r, cs', hcs, g1, g2, g3⟩
    obtain ⟨ll, hl1, hl2⟩ := choose_list each
    refine ⟨ll, ⟨rfl, _, rfl, some a, cap, by rw [hl1], by omega, h4, (fun h => by cases h), fun i r hi => ?_⟩, ?_, fun r hr => ?_⟩
    · obtain ⟨cs, q1, q2, q3, q4⟩ := hl2 i r hi
      have hil : i < len := by have := (List.getElem?_eq_some_iff.1 hi).1; omega
      obtain ⟨_, q5, q6⟩ := World.cells?_some q1
      have hs : a.spot = none := by
        obtain ⟨cs0, p1, _, _, p4⟩ := hl2 0 _ (List.getElem?_eq_getElem (show 0 < ll.length by omega))
        obtain ⟨_, _, p6⟩ := World.cells?_some p1
        have := p6 0 (by omega)
        rw [Nat.zero_mul, Addr.add, if_pos rfl, Addr.add, if_pos rfl, List.getElem?_eq_getElem (by omega)] at this
        exact no_spot this
      have ea : a = ⟨a.block, a.off, none⟩ := by
        cases a
        simp only at hs
        subst hs
        rfl
      have hat : ∀ j w, cs[j]? = some w → W.cell? ⟨a.block, a.off + i * n + j, none⟩ = some w := by
        intro j w hj
        have hjl : j < n := by have := (List.getElem?_eq_some_iff.1 hj).1; omega
        have := q6 j hjl
        rw [hj] at this
        rw [add_plain (a := a.add (i * n)) (by rw [add_plain hs]), add_plain hs] at this
        exact this
      refine ⟨a.block, a.off, cs, by rw [← ea], ?_, q2, by rw [hn]; exact hat⟩
      have h0 := hat 0 _ (List.getElem?_eq_getElem (show 0 < cs.length by omega))
      have := World.block_lt_of_cell? _ _ h0
      exact this
    · have h10 := hr _ (List.mem_cons_self ..)
      rw [List.length_map, h5] at h10
      rw [hl1]
      refine Nat.le_trans ?_ h10
      exact Nat.mul_le_mul_right _ (Nat.le_add_right _ _)
    · obtain ⟨i, hi⟩ := List.getElem?_of_mem hr
      obtain ⟨_, _, _, q3, _⟩ := hl2 i r hi
      exact q3

-- A file that came in.
def FileIn (r : Rec) : Prop := (recS r 0).size ≤ 9223372036854775807 ∧ (recW r 1).length ≤ 140737488351232 ∧ r = canonR r
set_option maxRecDepth 10000 in
theorem open_file {H : Type} {enc : TypeId × Value → H} {W : World} {fuel : Nat} {cs : List Value} {x : DataW H × List MemPlace} (h : DataW.trod enc Try.prog W 0 (fun _ => true) true fuel 46 cs = some x)
    (hr : ∀ n ∈ x.1.weights Try.prog 46, n ≤ reachBytes) : ∃ r : Rec, RecRel (cenv W).σ fSh 0 r cs ∧ FileIn r ∧ cs.length = 3 := by
  obtain ⟨xs, n, _, hx, hcl, hlen, hfs⟩ := DataW.trod_struct Try.underlying46 h
  rw [show Try.prog.cellsOf 46 = 3 from by kernel_rfl] at hcl
  match xs, hlen with
  | [x0, x1, x2], _ =>
    subst hx
    have h0 := hfs 0 _ rfl
    have h1 := hfs 1 _ rfl
    have h2 := hfs 2 _ rfl
    obtain ⟨s, e0, hs⟩ := cells_str Try.underlying9 h0
    obtain ⟨u, l, e1, hsl, hone, hwf, hle, _⟩ := cells_words Try.underlying22 Try.underlying5 (by kernel_rfl) h1 (fun m hm => hr m (by
      simp only [DataW.weights, Try.underlying46]
      exact DataW.weights_mem_each (j := 1) (t := 22) rfl rfl m hm))
    obtain ⟨m, e2, _⟩ := cells_int Try.underlying3 h2
    rw [show Try.prog.bytesOf 5 = 1 from by kernel_rfl, Nat.mul_one] at hle
    obtain rfl := three hcl e0 e1 e2
    exact ⟨[.s s, .w l, .i m], ⟨[_], _, rfl, rfl, [_], _, rfl, ⟨u, rfl, sl_known hsl⟩, [_], _, rfl, rfl, rfl⟩, ⟨hs, hle, rfl⟩, hcl⟩

set_option maxRecDepth 10000 in
theorem open_files {H : Type} {enc : TypeId × Value → H} {W : World} {base : Nat} {v : Value} {d : DataW H} {ps : List MemPlace} (hval : Value.okWide Try.prog W .any base 38 v)
    (hd : DataW.Trod enc Try.prog W 0 (fun _ => true) true 38 v d ps) (hr : ∀ n ∈ d.weights Try.prog 38, n ≤ reachBytes) :
    ∃ sc : List Rec, A0Rel DF (cenv W) (.one (.prs fSh sc)) v ∧ sc.length ≤ 2932031007400 ∧ ∀ r ∈ sc, FileIn r := by
  obtain ⟨sc, h1, h2, h3⟩ := open_rows (n := 3) Try.underlying38 (by kernel_rfl) rfl (by decide) open_file hval hd hr
  rw [show Try.prog.bytesOf 46 = 48 from by kernel_rfl] at h2
  have h2' : sc.length * 48 ≤ 140737488351232 := h2
  exact ⟨sc, h1, by omega, h3⟩

-- A call that came in.
set_option maxRecDepth 10000 in
theorem open_op {H : Type} {enc : TypeId × Value → H} {W : World} {fuel : Nat} {cs : List Value} {x : DataW H × List MemPlace} (h : DataW.trod enc Try.prog W 0 (fun _ => true) true fuel 52 cs = some x)
    (hr : ∀ n ∈ x.1.weights Try.prog 52, n ≤ reachBytes) : ∃ r : Rec, RecRel (cenv W).σ opSh 0 r cs ∧ OpOk (opOf r) ∧ cs.length = 6 := by
  obtain ⟨xs, n, _, hx, hcl, hlen, hfs⟩ := DataW.trod_struct Try.underlying52 h
  rw [show Try.prog.cellsOf 52 = 6 from by kernel_rfl] at hcl
  match xs, hlen with
  | [x0, x1, x2, x3, x4, x5], _ =>
    subst hx
    have h0 := hfs 0 _ rfl
    have h1 := hfs 1 _ rfl
    have h2 := hfs 2 _ rfl
    have h3 := hfs 3 _ rfl
    have h4 := hfs 4 _ rfl
    have h5 := hfs 5 _ rfl
    obtain ⟨k, e0, _⟩ := cells_int Try.underlying3 h0
    obtain ⟨s, e1, hs⟩ := cells_str Try.underlying9 h1
    obtain ⟨t, e2, ht⟩ := cells_str Try.underlying9 h2
    obtain ⟨u, l, e3, hsl, hone, hwf, hle, _⟩ := cells_words Try.underlying22 Try.underlying5 (by kernel_rfl) h3 (fun m hm => hr m (by
      simp only [DataW.weights, Try.underlying52]
      exact DataW.weights_mem_each (j := 3) (t := 22) rfl rfl m hm))
    obtain ⟨n4, e4, w4⟩ := cells_int Try.underlying3 h4
    obtain ⟨u5, l5, e5, hsl5, hone5, hwf5, hle5, _⟩ := cells_words Try.underlying32 Try.underlying3 (by kernel_rfl) h5 (fun m hm => hr m (by
      simp only [DataW.weights, Try.underlying52]
      exact DataW.weights_mem_each (j := 5) (t := 32) rfl rfl m hm))
    rw [show Try.prog.bytesOf 5 = 1 from by kernel_rfl, Nat.mul_one] at hle
    rw [show Try.prog.bytesOf 3 = 8 from by kernel_rfl] at hle5
    obtain rfl := six hcl e0 e1 e2 e3 e4 e5
    refine ⟨[.i k, .s s, .s t, .w l, .i n4, .w l5], ⟨[_], _, rfl, rfl, [_], _, rfl, rfl, [_], _, rfl, rfl, [_], _, rfl, ⟨u, rfl, sl_known hsl⟩, [_], _, rfl, rfl, [_], _, rfl, ⟨u5, rfl, sl_known hsl5⟩, rfl⟩, ⟨hs, ht, Nat.le_trans hle (by decide), (wf_i64 w4).2, Nat.le_trans hle5 (by decide)⟩, hcl⟩

set_option maxRecDepth 10000 in
theorem open_ops {H : Type} {enc : TypeId × Value → H} {W : World} {base : Nat} {v : Value} {d : DataW H} {ps : List MemPlace} (hval : Value.okWide Try.prog W .any base 50 v)
    (hd : DataW.Trod enc Try.prog W 0 (fun _ => true) true 50 v d ps) (hr : ∀ n ∈ d.weights Try.prog 50, n ≤ reachBytes) :
    ∃ sc : List Rec, A0Rel DF (cenv W) (.one (.prs opSh sc)) v ∧ sc.length ≤ 4611686018427387904 ∧ ∀ r ∈ sc, OpOk (opOf r) := by
  obtain ⟨sc, h1, h2, h3⟩ := open_rows (n := 6) Try.underlying50 (by kernel_rfl) rfl (by decide) open_op hval hd hr
  have hb : Try.prog.bytesOf 52 = 96 := by kernel_rfl
  rw [hb] at h2
  have h2' : sc.length * 96 ≤ 140737488351232 := h2
  exact ⟨sc, h1, by omega, h3⟩

end Go.Laws

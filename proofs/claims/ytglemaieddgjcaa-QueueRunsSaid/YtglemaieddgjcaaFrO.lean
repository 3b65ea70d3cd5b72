/- A script of steps that came in. -/
import Derived.Test.YtglemaieddgjcaaFrame
import Derived.Test.YtglemaieddgjcaaQ13
namespace Go.Laws
open Go.Abs Go.Proofs Go.ChangeShapes Go.WideShapes Go.ChangeAt Go.RowKit Go.Num

theorem cells_int {H : Type} {enc : TypeId × Value → H} {P : Program} {W : World} {t : TypeId} {k : IntKind} {fuel : Nat} {cs : List Value} {x : DataW H × List MemPlace} (ht : P.underlying t = some (.int k)) (h : DataW.trod enc P W 0 (fun _ => true) true fuel t cs = some x) :
    ∃ n, cs = [.int k n] ∧ (Lit.int k n).wf = true := by
  obtain ⟨n, h1, _, h3⟩ := DataW.trod_int ht h
  exact ⟨n, h1, h3⟩

theorem sl_known {W : World} {k : IntKind} {l : List Int} {v : Value} (h : SlRel (fun _ => False) W k l v) : SlRel (fun b => ¬ (cenv W).σ.zm b) (cenv W).σ.zw k l v := by
  obtain ⟨ao, cap, e, h1, h2, h3, h4⟩ := h
  refine ⟨ao, cap, e, h1, h2, h3, fun i hi => ?_⟩
  obtain ⟨b, off, e1, _, e3⟩ := h4 i hi
  exact ⟨b, off, e1, fun hn => hn (World.block_lt_of_cell? _ _ e3), e3⟩

theorem five {α : Type} {cs c3 : List α} {a b c d e : α} (hl : cs.length = 5) (ha : (cs.drop 0).take 1 = [a]) (hb : (cs.drop 1).take 1 = [b]) (h3 : (cs.drop 2).take 3 = c3) (hc : (c3.drop 0).take 1 = [c]) (hd : (c3.drop 1).take 1 = [d]) (he : (c3.drop 2).take 1 = [e]) : cs = [a, b, c, d, e] := by
  match cs, hl with
  | [_, _, _, _, _], _ =>
    subst h3
    simp_all

/-- A step that came in. -/
theorem open_op {H : Type} {enc : TypeId × Value → H} {W : World} {fuel : Nat} {cs : List Value} {x : DataW H × List MemPlace} (h : DataW.trod enc Try.prog W 0 (fun _ => true) true fuel 38 cs = some x)
    (hr : ∀ n ∈ x.1.weights Try.prog 38, n ≤ reachBytes) : ∃ r : Rec, RecRel (cenv W).σ opSh 0 r cs ∧ (recW r 4).length ≤ 140737488351232 ∧ cs.length = 5 := by
  obtain ⟨xs, n, _, hx, hcl, hlen, hfs⟩ := DataW.trod_struct Try.underlying38 h
  rw [show Try.prog.cellsOf 38 = 5 from by kernel_rfl] at hcl
  match xs, hlen with
  | [x0, x1, x2], _ =>
    subst hx
    have h0 := hfs 0 _ rfl
    have h1 := hfs 1 _ rfl
    have h2 := hfs 2 _ rfl
    obtain ⟨n0, e0, _⟩ := cells_int Try.underlying3 h0
    obtain ⟨n1, e1, _⟩ := cells_int Try.underlying3 h1
    obtain ⟨ys, n', _, hy, _, hlen2, hgs⟩ := DataW.trod_struct Try.underlying30 h2
    match ys, hlen2 with
    | [y0, y1, y2], _ =>
      subst hy
      have g0 := hgs 0 _ rfl
      have g1 := hgs 1 _ rfl
      have g2 := hgs 2 _ rfl
      obtain ⟨m0, f0, _⟩ := cells_int Try.underlying3 g0
      obtain ⟨m1, f1, _⟩ := cells_int Try.underlying3 g1
      obtain ⟨u, l, f2, hsl, hone, hwf, hle, _⟩ := cells_words Try.underlying28 Try.underlying5 (by kernel_rfl) g2 (fun m hm => hr m (by
        simp only [DataW.weights, Try.underlying38]
        refine DataW.weights_mem_each (j := 2) (t := 30) rfl rfl m ?_
        simp only [DataW.weights, Try.underlying30]
        exact DataW.weights_mem_each (j := 2) (t := 28) rfl rfl m hm))
      rw [show Try.prog.bytesOf 5 = 1 from by kernel_rfl, Nat.mul_one] at hle
      obtain rfl := five hcl e0 e1 rfl f0 f1 f2
      refine ⟨[.i n0, .i n1, .i m0, .i m1, .w l], ⟨[_], _, rfl, rfl, [_], _, rfl, rfl, [_], _, rfl, rfl, [_], _, rfl, rfl, [_], _, rfl, ⟨u, rfl, sl_known hsl⟩, rfl⟩, hle, hcl⟩

/-- A script that came in. -/
theorem open_ops {H : Type} {enc : TypeId × Value → H} {W : World} {base : Nat} {v : Value} {d : DataW H} {ps : List MemPlace} (hval : Value.okWide Try.prog W .any base 35 v)
    (hd : DataW.Trod enc Try.prog W 0 (fun _ => true) true 35 v d ps) (hr : ∀ n ∈ d.weights Try.prog 35, n ≤ reachBytes) :
    ∃ sc : List Rec, A0Rel D0 (cenv W) (.one (.prs opSh sc)) v ∧ ∀ r ∈ sc, (recW r 4).length ≤ 140737488351232 := by
  obtain ⟨a0, len0, cap0, rfl⟩ := okWide_slice Try.underlying35 hval
  obtain ⟨fuel, hf⟩ := hd
  have hc5 : Try.prog.cellsOf 38 = 5 := by kernel_rfl
  rcases DataW.trod_slice Try.underlying35 hf with ⟨h1, h2⟩ | ⟨a, len, cap, elems, rest, m, _, h1, h2, _, h3, h4, h5, h6, h7, _⟩
  · have h1' : [Value.slice a0 len0 cap0] = [.slice none 0 0] := h1
    simp only [List.cons.injEq, and_true] at h1'
    rw [h1']
    exact ⟨[], ⟨rfl, _, rfl, none, 0, rfl, Nat.le_refl _, Nat.zero_le _, fun _ => rfl, fun i r hi => by cases hi⟩, fun r hr => by cases hr⟩
  · have h1' : [Value.slice a0 len0 cap0] = [.slice (some a) len cap] := h1
    simp only [List.cons.injEq, and_true] at h1'
    rw [h1']
    simp only [Prod.mk.injEq] at h2
    obtain ⟨rfl, _⟩ := h2
    simp only [DataW.weights, Try.underlying35] at hr
    have each : ∀ i, i < len → ∃ r : Rec, ∃ cs, W.cells? 0 (a.add (i * 5)) 5 = some cs ∧ RecRel (cenv W).σ opSh 0 r cs ∧ (recW r 4).length ≤ 140737488351232 ∧ cs.length = 5 := by
      intro i hi
      have he' := h6 i hi
      have hy : elems[i]? = some (elems[i]'(by omega)) := List.getElem?_eq_getElem (by omega)
      rw [hy, hc5, Option.bind_eq_some_iff] at he'
      obtain ⟨cs', hcs, hy'⟩ := he'
      obtain ⟨r, g1, g2, g3⟩ := open_op hy' (fun n hn => hr n (List.mem_cons_of_mem _ (List.mem_append_left _ (weights_all (List.mem_map_of_mem (List.getElem_mem (by omega))) n hn))))
      exact ⟨r, cs', hcs, g1, g2, g3⟩
    obtain ⟨ll, hl1, hl2⟩ := choose_list each
    refine ⟨ll, ⟨rfl, _, rfl, some a, cap, by rw [hl1], by omega, h4, (fun h => by cases h), fun i r hi => ?_⟩, fun r hr => ?_⟩
    · obtain ⟨cs, q1, q2, q3, q4⟩ := hl2 i r hi
      have hil : i < len := by have := (List.getElem?_eq_some_iff.1 hi).1; omega
      obtain ⟨_, q5, q6⟩ := World.cells?_some q1
      have hs : a.spot = none := by
        obtain ⟨cs0, p1, _, _, p4⟩ := hl2 0 _ (List.getElem?_eq_getElem (show 0 < ll.length by omega))
        obtain ⟨_, _, p6⟩ := World.cells?_some p1
        have := p6 0 (by omega)
        rw [Nat.zero_mul, Addr.add, if_pos rfl, Addr.add, if_pos rfl, List.getElem?_eq_getElem (by omega)] at this
        exact no_spot this
      have ea : a = ⟨a.block, a.off, none⟩ := by
        cases a
        simp only at hs
        subst hs
        rfl
      have hat : ∀ j w, cs[j]? = some w → W.cell? ⟨a.block, a.off + i * 5 + j, none⟩ = some w := by
        intro j w hj
        have hjl : j < 5 := by have := (List.getElem?_eq_some_iff.1 hj).1; omega
        have := q6 j hjl
        rw [hj] at this
        rw [add_plain (a := a.add (i * 5)) (by rw [add_plain hs]), add_plain hs] at this
        exact this
      refine ⟨a.block, a.off, cs, by rw [← ea], ?_, q2, hat⟩
      have h0 := hat 0 _ (List.getElem?_eq_getElem (show 0 < cs.length by omega))
      have := World.block_lt_of_cell? _ _ h0
      exact this
    · obtain ⟨i, hi⟩ := List.getElem?_of_mem hr
      obtain ⟨_, _, _, q3, _⟩ := hl2 i r hi
      exact q3

end Go.Laws

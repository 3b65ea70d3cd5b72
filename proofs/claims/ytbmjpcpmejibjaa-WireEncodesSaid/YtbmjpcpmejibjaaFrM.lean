/- A message that came in. -/
import Derived.Test.YtbmjpcpmejibjaaFrame
import Derived.Test.YtbmjpcpmejibjaaW1
namespace Go.Laws
open Go.Abs Go.Proofs Go.ChangeShapes Go.WideShapes Go.ChangeAt Go.RowKit Go.Num

section
variable {H : Type} {enc : TypeId × Value → H} {P : Program} {W : World}

/-- Cells that hold a slice of integers. -/
theorem cells_words {t e : TypeId} {k : IntKind} {fuel : Nat} {cs : List Value} {x : DataW H × List MemPlace} (ht : P.underlying t = some (.slice e)) (he : P.underlying e = some (.int k)) (hc : P.cellsOf e = 1)
    (h : DataW.trod enc P W 0 (fun _ => true) true fuel t cs = some x) (hr : ∀ n ∈ x.1.weights P t, n ≤ reachBytes) :
    ∃ (v : Value) (l : List Int), cs = [v] ∧ SlRel (fun _ => False) W k l v ∧ v.oneCell' = true ∧ (∀ n ∈ l, (Lit.int k n).wf = true) ∧ l.length * P.bytesOf e ≤ reachBytes := by
  rcases open_ints ht he hc h with ⟨h1, _⟩ | ⟨a, len, cap, zs, h1, _, h3, h4, h5, h6, h7, h8⟩
  · exact ⟨.slice none 0 0, [], h1, ⟨none, 0, rfl, Nat.le_refl _, Nat.zero_le _, fun _ => rfl, (fun i hi => by cases hi)⟩, rfl, (fun n hn => by cases hn), by simp⟩
  · subst h6
    simp only [if_true] at h5
    have hl : (zs.take len).length = len := by rw [List.length_take]; omega
    refine ⟨_, zs.take len, h1, ⟨some a, cap, by rw [hl], by omega, h4, (fun h => by cases h), fun i hi => ?_⟩, rfl, fun n hn => h8 n (List.mem_of_mem_take hn), ?_⟩
    · rw [hl] at hi
      have hs : a.spot = none := by
        have h0 := h7 0 (by omega)
        rw [Addr.add, if_pos rfl] at h0
        unfold World.cell? at h0
        split at h0
        · split at h0
          · cases h0
          · rename_i hsp
            simpa using hsp
        · cases h0
      have h9 := h7 i (by omega)
      have ea : a.add i = ⟨a.block, a.off + i, none⟩ := by
        unfold Addr.add
        split
        · rename_i h0
          subst h0
          cases a
          simp only at hs
          subst hs
          rfl
        · rfl
      rw [ea] at h9
      refine ⟨a.block, a.off, ?_, fun h => h, ?_⟩
      · cases a
        simp only at hs
        subst hs
        rfl
      · rw [h9]
        congr 2
        rw [List.getD_eq_getElem?_getD, List.getD_eq_getElem?_getD, List.getElem?_take_of_lt hi]
    · have h10 := hr ((zs.take len).length * P.bytesOf e + (zs.drop len).length * P.bytesOf e) (by simp only [DataW.weights, ht, lits, List.length_map, Nat.add_mul]; exact List.mem_cons_self ..)
      omega

theorem cells_int {t : TypeId} {k : IntKind} {fuel : Nat} {cs : List Value} {x : DataW H × List MemPlace} (ht : P.underlying t = some (.int k)) (h : DataW.trod enc P W 0 (fun _ => true) true fuel t cs = some x) :
    ∃ n, cs = [.int k n] ∧ (Lit.int k n).wf = true := by
  obtain ⟨n, h1, _, h3⟩ := DataW.trod_int ht h
  exact ⟨n, h1, h3⟩
end

theorem take_cons {α : Type} {cs : List α} {o : Nat} {v : α} (h : (cs.drop o).take 1 = [v]) : cs[o]? = some v := by
  have := congrArg (fun l : List α => l[0]?) h
  simpa using this

theorem seven {α : Type} {cs : List α} {a b c d e f g : α} (hl : cs.length = 7) (ha : cs[0]? = some a) (hb : cs[1]? = some b) (hc : cs[2]? = some c) (hd : cs[3]? = some d) (he : cs[4]? = some e) (hf : cs[5]? = some f) (hg : cs[6]? = some g) :
    cs = [a, b, c, d, e, f, g] := by
  match cs, hl with
  | [_, _, _, _, _, _, _], _ => simp_all

/-- A message that came in. -/
theorem open_msg {H : Type} {enc : TypeId × Value → H} {W : World} {base : Nat} {v : Value} {d : DataW H} {ps : List MemPlace} (hval : Value.okWide Try.prog W .any base 25 v)
    (hd : DataW.Trod enc Try.prog W 0 (fun _ => true) true 25 v d ps) (hr : ∀ n ∈ d.weights Try.prog 25, n ≤ reachBytes) :
    ∃ m : Msg, A0Rel D0 (cenv W) (.agg m.P) v ∧ InB m.bd ∧ m.bd.length ≤ 140737488351232 := by
  obtain ⟨vs, rfl, hsz⟩ := okWide_struct Try.underlying25 hval
  rw [show Try.prog.cellsOf 25 = 7 from by kernel_rfl] at hsz
  obtain ⟨fuel, hf⟩ := hd
  obtain ⟨xs, n, _, hx, _, hlen, hfs⟩ := DataW.trod_struct Try.underlying25 hf
  match xs, hlen with
  | [x0, x1, x2, x3, x4, x5, x6], _ =>
    simp only [Prod.mk.injEq] at hx
    obtain ⟨rfl, rfl⟩ := hx
    have h0 := hfs 0 _ rfl
    have h1 := hfs 1 _ rfl
    have h2 := hfs 2 _ rfl
    have h3 := hfs 3 _ rfl
    have h4 := hfs 4 _ rfl
    have h5 := hfs 5 _ rfl
    have h6 := hfs 6 _ rfl
    simp only [Value.cells] at h0 h1 h2 h3 h4 h5
    simp only [Value.cells] at h6
    obtain ⟨n0, e0, _⟩ := cells_int Try.underlying3 h0
    obtain ⟨n1, e1, _⟩ := cells_int Try.underlying3 h1
    obtain ⟨n2, e2, _⟩ := cells_int Try.underlying3 h2
    obtain ⟨n3, e3, _⟩ := cells_int Try.underlying3 h3
    obtain ⟨n4, e4, _⟩ := cells_int Try.underlying3 h4
    obtain ⟨n5, e5, _⟩ := cells_int Try.underlying3 h5
    obtain ⟨u, l, e6, hsl, hone, hwf, hle⟩ := cells_words Try.underlying23 Try.underlying5 (by kernel_rfl) h6 (fun m hm => hr m (by
      simp only [DataW.weights, Try.underlying25]
      exact DataW.weights_mem_each (j := 6) (t := 23) rfl rfl m hm))
    have ev := seven (by simpa using hsz) (take_cons e0) (take_cons e1) (take_cons e2) (take_cons e3) (take_cons e4) (take_cons e5) (take_cons e6)
    rw [show Try.prog.bytesOf 5 = 1 from by kernel_rfl, Nat.mul_one] at hle
    refine ⟨⟨n0, n1, n2, n3, n4, n5, l⟩, ⟨[.int .i64 n0, .int .i64 n1, .int .i64 n2, .int .i64 n3, .int .i64 n4, .int .i64 n5, u], ?_, ?_⟩, fun a ha => wf_u8 (hwf a ha), hle⟩
    · rw [← ev]
    · exact ⟨[_], _, rfl, rfl, [_], _, rfl, rfl, [_], _, rfl, rfl, [_], _, rfl, rfl, [_], _, rfl, rfl, [_], _, rfl, rfl, [_], _, rfl, ⟨u, rfl, hsl⟩, rfl⟩

end Go.Laws

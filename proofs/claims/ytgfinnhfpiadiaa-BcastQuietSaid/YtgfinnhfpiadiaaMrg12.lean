/- Several texts put together: Frame FrB. -/
import Derived.Test.YtgfinnhfpiadiaaMrg11
import Derived.Test.YtgfinnhfpiadiaaRows
import Derived.WalkKit
import Derived.ProofKit
import Derived.OpenShut
import Derived.ShutString
import Derived.SizedLaws
import Derived.Carry
namespace Go.Laws
open Go.Abs Go.Proofs Go.Proofs.Ytgfinnhfpiadiaa Go.ChangeShapes Go.WideShapes Go.ChangeAt Go.RowKit Go.Num
theorem own : ownKnob Try.prog.godebug = none := by kernel_rfl
theorem laidOut : laidOutB Try.prog = true := by kernel_rfl
theorem trodAll_below {H : Type} {enc : TypeId × Value → H} {P : Program} (hl : laidOutB P = true) {W W' : World} (hb : Below W.heap.size W W') :
    ∀ {ts : List TypeId} {vs : List Value} {ds : List (DataW H)} {ps : List MemPlace}, (ts.all fun t => P.readableRec t && decide (t < P.types.size)) = true →
      DataW.TrodAll enc P W 0 (fun _ => true) true ts vs ds ps → (∀ x ∈ ps, x.block < W.heap.size) → DataW.TrodAll enc P W' 0 (fun b => decide (b < W.heap.size)) true ts vs ds ps
  | [], [], [], _, _, h, _ => h
  | [], [], _ :: _, _, _, h, _ => h.elim
  | [], _ :: _, _, _, _, h, _ => h.elim
  | _ :: _, [], _, _, _, h, _ => h.elim
  | _ :: _, _ :: _, [], _, _, h, _ => h.elim
  | t :: ts, v :: vs, d :: ds, ps, hr, h, hlt => by
    obtain ⟨p, q, h1, h2, rfl⟩ := h
    simp only [List.all_cons, Bool.and_eq_true, decide_eq_true_eq] at hr
    exact ⟨p, q, Below.trod hl hr.1.1 hr.1.2 h1 hb (fun x hx => hlt x (List.mem_append_left _ hx)), trodAll_below hl hb (by simpa using hr.2) h2 (fun x hx => hlt x (List.mem_append_right _ hx)), rfl⟩
theorem law_post {H : Type} {enc : TypeId × Value → H} {P : Program} {fn : Func} {s : ChangeSpec} {W W' : World} {args : Array Value} {ds : List (DataW H)} {before : List MemPlace} {tb : TypeId} (hl : laidOutB P = true)
    (hp : (fn.params.toList.all fun t => P.readableRec t && decide (t < P.types.size)) = true) (hs : s.vars = []) (hfn : s.fn H (ds ++ []) = { results := [.lit (.bool true)], args := ds })
    (hr : fn.resultTypes = #[tb]) (htb : P.underlying tb = some .bool) (hW : DataW.Whole enc P fn.params.toList s.vars false W args.toList ds [] before) (hb : Below W.heap.size W W') :
    s.post enc P fn false true false false W args (.bool true) W' := by
  have hlt : ∀ p ∈ before, p.block < W.heap.size := fun p hp => hW.lt p hp
  obtain ⟨p, q, hA, hV, hpq, hfz, hnd⟩ := id hW
  have hq : q = [] := by
    rw [hs] at hV
    exact hV
  subst hq
  rw [List.append_nil] at hpq
  subst hpq
  refine ⟨ds, [], before, [], before, [], hW, ?_, ?_, ?_, World.keptBut_mono (fun x hx => ⟨hx, .inr (.inl hx)⟩) (hb.frame (· ∈ before)), fun h => by cases h⟩
  · rw [hfn, hr]
    exact trodAll_cons_mk (shut_bool htb _) trodAll_mk0
  · rw [hfn]
    exact trodAll_below hl hb hp hA hlt
  · rw [hfn, hs]
    rfl
theorem no_spot {W : World} {a : Addr} {v : Value} (h : W.cell? a = some v) : a.spot = none := by
  unfold World.cell? at h
  split at h
  · split at h
    · cases h
    · rename_i hsp
      simpa using hsp
  · cases h
theorem add_plain {a : Addr} (hs : a.spot = none) (i : Nat) : a.add i = ⟨a.block, a.off + i, none⟩ := by
  unfold Addr.add
  split
  · rename_i h0
    subst h0
    cases a
    simp only at hs
    subst hs
    rfl
  · rfl
theorem cells_words {H : Type} {enc : TypeId × Value → H} {P : Program} {W : World} {t e : TypeId} {k : IntKind} {fuel : Nat} {cs : List Value} {x : DataW H × List MemPlace} (ht : P.underlying t = some (.slice e)) (he : P.underlying e = some (.int k)) (hc : P.cellsOf e = 1)
    (h : DataW.trod enc P W 0 (fun _ => true) true fuel t cs = some x) (hr : ∀ n ∈ x.1.weights P t, n ≤ reachBytes) :
    ∃ (v : Value) (l : List Int), cs = [v] ∧ SlRel (fun _ => False) W k l v ∧ v.oneCell' = true ∧ (∀ n ∈ l, (Lit.int k n).wf = true) ∧ l.length * P.bytesOf e ≤ reachBytes ∧
      ((l = [] ∧ x.1 = .nil) ∨ ∃ rest, x.1 = .slice (lits k l) rest) := by
  rcases open_ints ht he hc h with ⟨h1, h2⟩ | ⟨a, len, cap, zs, h1, _, h3, h4, h5, h6, h7, h8⟩
  · exact ⟨.slice none 0 0, [], h1, ⟨none, 0, rfl, Nat.le_refl _, Nat.zero_le _, fun _ => rfl, (fun i hi => by cases hi)⟩, rfl, (fun n hn => by cases hn), by simp, .inl ⟨rfl, by rw [h2]⟩⟩
  · subst h6
    simp only [if_true] at h5
    have hl : (zs.take len).length = len := by rw [List.length_take]; omega
    refine ⟨_, zs.take len, h1, ⟨some a, cap, by rw [hl], by omega, h4, (fun h => by cases h), fun i hi => ?_⟩, rfl, fun n hn => h8 n (List.mem_of_mem_take hn), ?_, .inr ⟨_, rfl⟩⟩
    · rw [hl] at hi
      have h0 := h7 0 (by omega)
      rw [Addr.add, if_pos rfl] at h0
      have hs := no_spot h0
      have h9 := h7 i (by omega)
      rw [add_plain hs] at h9
      refine ⟨a.block, a.off, ?_, fun h => h, ?_⟩
      · cases a
        simp only at hs
        subst hs
        rfl
      · rw [h9]
        congr 2
        rw [List.getD_eq_getElem?_getD, List.getD_eq_getElem?_getD, List.getElem?_take_of_lt hi]
    · have h10 := hr ((zs.take len).length * P.bytesOf e + (zs.drop len).length * P.bytesOf e) (by simp only [DataW.weights, ht, lits, List.length_map, Nat.add_mul]; exact List.mem_cons_self ..)
      omega
theorem choose_list {α : Type} {p : Nat → α → Prop} : ∀ {n : Nat}, (∀ i, i < n → ∃ x, p i x) → ∃ l : List α, l.length = n ∧ ∀ i x, l[i]? = some x → p i x
  | 0, _ => ⟨[], rfl, fun i x h => by cases h⟩
  | n + 1, h => by
    obtain ⟨l, h1, h2⟩ := choose_list (n := n) fun i hi => h i (by omega)
    obtain ⟨x, hx⟩ := h n (by omega)
    refine ⟨l ++ [x], by simp [h1], fun i y hy => ?_⟩
    by_cases hi : i < l.length
    · rw [List.getElem?_append_left hi] at hy
      exact h2 i y hy
    · rw [List.getElem?_append_right (by omega)] at hy
      have hi' : i - l.length = 0 := by
        have := (List.getElem?_eq_some_iff.1 hy).1
        simp at this
        omega
      rw [hi'] at hy
      simp only [List.getElem?_cons_zero, Option.some.injEq] at hy
      subst hy
      rw [show i = n from by omega]
      exact hx
theorem weights_all {H : Type} {P : Program} {e : TypeId} {d : DataW H} : ∀ {l : List (DataW H)}, d ∈ l → ∀ n ∈ d.weights P e, n ∈ DataW.weightsAll P e l
  | [], h, _, _ => by cases h
  | x :: l, h, n, hn => by
    simp only [DataW.weightsAll, List.mem_append]
    rcases List.mem_cons.1 h with rfl | h
    · exact .inl hn
    · exact .inr (weights_all h n hn)
theorem wf_u8 {n : Int} (h : (Lit.int .u8 n).wf = true) : 0 ≤ n ∧ n < 256 := by
  have h1 : IntKind.u8.min = 0 := rfl
  have h2 : IntKind.u8.max = 255 := rfl
  simp only [Lit.wf, Bool.and_eq_true, decide_eq_true_eq] at h
  omega
theorem wf_i64 {n : Int} (h : (Lit.int .i64 n).wf = true) : -9223372036854775808 ≤ n ∧ n ≤ 9223372036854775807 := by
  have h1 : IntKind.i64.min = -9223372036854775808 := rfl
  have h2 : IntKind.i64.max = 9223372036854775807 := rfl
  simp only [Lit.wf, Bool.and_eq_true, decide_eq_true_eq] at h
  omega
theorem one_num {D : Dom} {W : World} {k : IntKind} {b : Bool} {n : Int} : A0Rel D (cenv W) (.one (.int k b n)) (.int k n) := ⟨rfl, rfl⟩
theorem rel_nil {D : Dom} {E : Env} : A0sRel D E [] [] := rfl
theorem rel_cons {D : Dom} {E : Env} {a : A0 D.τ} {v : Value} {xs : List (A0 D.τ)} {vs : List Value} (h : A0Rel D E a v) (k : A0sRel D E xs vs) : A0sRel D E (a :: xs) (v :: vs) := ⟨v, vs, rfl, h, k⟩
theorem law_calls {P : Program} {D : Dom} {Γ : Gam D} (hΓ : GamOK P D Γ) (hm : P.follows .mixedOrders = true) {f : FuncId} {fn : Func} (hf : P.funcs[f]? = some fn) {fuel : Nat} {xs : List (A0 D.τ)} {ds : List (Dec D.τ)} {b : Bool} {ps : List Prop}
    (h : runF P D Γ fuel fn xs ds = some (.v (.one (.bool b true)), ps)) (hps : AllQ ps) {W : World} {vs : List Value} (hG : GlobAt D W) (hx : A0sRel D (cenv W) xs vs) :
    Calls P f vs.toArray W fun e w' => e = .returned (.bool true) ∧ Below W.heap.size W w' := by
  refine (runF_calls hΓ hm hf h hps hG hx).mono ?_
  rintro e w' ⟨v, he, ⟨ν, _, hr⟩, hb⟩
  have hv : v = .bool true := by
    obtain ⟨_, h2⟩ := hr
    simpa [PartRel] using h2
  subst hv
  exact ⟨he, hb⟩
end Go.Laws
namespace Go.Laws
open Go.Abs Go.Proofs Go.ChangeShapes Go.WideShapes Go.ChangeAt Go.RowKit Go.Num
theorem cells_int {H : Type} {enc : TypeId × Value → H} {P : Program} {W : World} {t : TypeId} {k : IntKind} {fuel : Nat} {cs : List Value} {x : DataW H × List MemPlace} (ht : P.underlying t = some (.int k)) (h : DataW.trod enc P W 0 (fun _ => true) true fuel t cs = some x) :
    ∃ n, cs = [.int k n] ∧ (Lit.int k n).wf = true := by
  obtain ⟨n, h1, _, h3⟩ := DataW.trod_int ht h
  exact ⟨n, h1, h3⟩
theorem sl_known {W : World} {k : IntKind} {l : List Int} {v : Value} (h : SlRel (fun _ => False) W k l v) : SlRel (fun b => ¬ (cenv W).σ.zm b) (cenv W).σ.zw k l v := by
  obtain ⟨ao, cap, e, h1, h2, h3, h4⟩ := h
  refine ⟨ao, cap, e, h1, h2, h3, fun i hi => ?_⟩
  obtain ⟨b, off, e1, _, e3⟩ := h4 i hi
  exact ⟨b, off, e1, fun hn => hn (World.block_lt_of_cell? _ _ e3), e3⟩
theorem open_rows {P : Program} {H : Type} {enc : TypeId × Value → H} {W : World} {base : Nat} {v : Value} {d : DataW H} {ps : List MemPlace} {t e : TypeId} {sh : List FK} {n : Nat} {good : Rec → Prop} (ht : P.underlying t = some (.slice e)) (hc : P.cellsOf e = n) (hn : rsz sh = n) (h1n : 0 < n)
    (elem : ∀ {fuel : Nat} {cs : List Value} {x : DataW H × List MemPlace}, DataW.trod enc P W 0 (fun _ => true) true fuel e cs = some x → (∀ n ∈ x.1.weights P e, n ≤ reachBytes) → ∃ r : Rec, RecRel (cenv W).σ sh 0 r cs ∧ good r ∧ cs.length = n)
    (hval : Value.okWide P W .any base t v) (hd : DataW.Trod enc P W 0 (fun _ => true) true t v d ps) (hr : ∀ n ∈ d.weights P t, n ≤ reachBytes) :
    ∃ sc : List Rec, A0Rel DB (cenv W) (.one (.prs sh sc)) v ∧ sc.length * P.bytesOf e ≤ reachBytes ∧ ∀ r ∈ sc, good r := by
  obtain ⟨a0, len0, cap0, rfl⟩ := okWide_slice ht hval
  obtain ⟨fuel, hf⟩ := hd
  rcases DataW.trod_slice ht hf with ⟨h1, h2⟩ | ⟨a, len, cap, elems, rest, m, _, h1, h2, _, h3, h4, h5, h6, h7, _⟩
  · have h1' : [Value.slice a0 len0 cap0] = [.slice none 0 0] := h1
    simp only [List.cons.injEq, and_true] at h1'
    rw [h1']
    exact ⟨[], ⟨rfl, _, rfl, none, 0, rfl, Nat.le_refl _, Nat.zero_le _, fun _ => rfl, fun i r hi => by cases hi⟩, by simp, fun r hr => by cases hr⟩
  · have h1' : [Value.slice a0 len0 cap0] = [.slice (some a) len cap] := h1
    simp only [List.cons.injEq, and_true] at h1'
    rw [h1']
    simp only [Prod.mk.injEq] at h2
    obtain ⟨rfl, _⟩ := h2
    simp only [DataW.weights, ht] at hr
    have each : ∀ i, i < len → ∃ r : Rec, ∃ cs, W.cells? 0 (a.add (i * n)) n = some cs ∧ RecRel (cenv W).σ sh 0 r cs ∧ good r ∧ cs.length = n := by
      intro i hi
      have he' := h6 i hi
      have hy : elems[i]? = some (elems[i]'(by omega)) := List.getElem?_eq_getElem (by omega)
      rw [hy, hc, Option.bind_eq_some_iff] at he'
      obtain ⟨cs', hcs, hy'⟩ := he'
      obtain ⟨r, g1, g2, g3⟩ := elem hy' (fun n hn => hr n (List.mem_cons_of_mem _ (List.mem_append_left _ (weights_all (List.mem_map_of_mem (List.getElem_mem (by omega))) n hn))))
      exact ⟨r, cs', hcs, g1, g2, g3⟩
    obtain ⟨ll, hl1, hl2⟩ := choose_list each
    refine ⟨ll, ⟨rfl, _, rfl, some a, cap, by rw [hl1], by omega, h4, (fun h => by cases h), fun i r hi => ?_⟩, ?_, fun r hr => ?_⟩
    · obtain ⟨cs, q1, q2, q3, q4⟩ := hl2 i r hi
      have hil : i < len := by have := (List.getElem?_eq_some_iff.1 hi).1; omega
      obtain ⟨_, q5, q6⟩ := World.cells?_some q1
      have hs : a.spot = none := by
        obtain ⟨cs0, p1, _, _, p4⟩ := hl2 0 _ (List.getElem?_eq_getElem (show 0 < ll.length by omega))
        obtain ⟨_, _, p6⟩ := World.cells?_some p1
        have := p6 0 (by omega)
        rw [Nat.zero_mul, Addr.add, if_pos rfl, Addr.add, if_pos rfl, List.getElem?_eq_getElem (by omega)] at this
        exact no_spot this
      have ea : a = ⟨a.block, a.off, none⟩ := by
        cases a
        simp only at hs
        subst hs
        rfl
      have hat : ∀ j w, cs[j]? = some w → W.cell? ⟨a.block, a.off + i * n + j, none⟩ = some w := by
        intro j w hj
        have hjl : j < n := by have := (List.getElem?_eq_some_iff.1 hj).1; omega
        have := q6 j hjl
        rw [hj] at this
        rw [add_plain (a := a.add (i * n)) (by rw [add_plain hs]), add_plain hs] at this
        exact this
      refine ⟨a.block, a.off, cs, by rw [← ea], ?_, q2, by rw [hn]; exact hat⟩
      have h0 := hat 0 _ (List.getElem?_eq_getElem (show 0 < cs.length by omega))
      have := World.block_lt_of_cell? _ _ h0
      exact this
    · have h10 := hr _ (List.mem_cons_self ..)
      rw [List.length_map, h5] at h10
      rw [hl1]
      refine Nat.le_trans ?_ h10
      exact Nat.mul_le_mul_right _ (Nat.le_add_right _ _)
    · obtain ⟨i, hi⟩ := List.getElem?_of_mem hr
      obtain ⟨_, _, _, q3, _⟩ := hl2 i r hi
      exact q3
theorem seven {α : Type} {cs : List α} {a b c d e f g : α} (hl : cs.length = 7) (ha : (cs.drop 0).take 1 = [a]) (hb : (cs.drop 1).take 1 = [b]) (hc : (cs.drop 2).take 1 = [c]) (hd : (cs.drop 3).take 1 = [d]) (he : (cs.drop 4).take 1 = [e]) (hf : (cs.drop 5).take 1 = [f]) (hg : (cs.drop 6).take 1 = [g]) : cs = [a, b, c, d, e, f, g] := by
  match cs, hl with
  | [_, _, _, _, _, _, _], _ => simp_all
set_option maxRecDepth 10000 in
theorem open_ms {H : Type} {enc : TypeId × Value → H} {W : World} {fuel : Nat} {cs : List Value} {x : DataW H × List MemPlace} (h : DataW.trod enc Try.prog W 0 (fun _ => true) true fuel 38 cs = some x)
    (hr : ∀ n ∈ x.1.weights Try.prog 38, n ≤ reachBytes) : ∃ r : Rec, RecRel (cenv W).σ mSh 0 r cs ∧ MsIn r ∧ cs.length = 7 := by
  obtain ⟨xs, n, _, hx, hcl, hlen, hfs⟩ := DataW.trod_struct Try.underlying38 h
  rw [show Try.prog.cellsOf 38 = 7 from by kernel_rfl] at hcl
  match xs, hlen with
  | [x0, x1, x2, x3, x4, x5, x6], _ =>
    subst hx
    have h0 := hfs 0 _ rfl
    have h1 := hfs 1 _ rfl
    have h2 := hfs 2 _ rfl
    have h3 := hfs 3 _ rfl
    have h4 := hfs 4 _ rfl
    have h5 := hfs 5 _ rfl
    have h6 := hfs 6 _ rfl
    obtain ⟨n0, e0, _⟩ := cells_int Try.underlying3 h0
    obtain ⟨n1, e1, _⟩ := cells_int Try.underlying3 h1
    obtain ⟨n2, e2, _⟩ := cells_int Try.underlying3 h2
    obtain ⟨n3, e3, _⟩ := cells_int Try.underlying3 h3
    obtain ⟨n4, e4, _⟩ := cells_int Try.underlying3 h4
    obtain ⟨n5, e5, _⟩ := cells_int Try.underlying3 h5
    obtain ⟨u, l, e6, hsl, hone, hwf, hle, _⟩ := cells_words Try.underlying36 Try.underlying5 (by kernel_rfl) h6 (fun m hm => hr m (by
      simp only [DataW.weights, Try.underlying38]
      exact DataW.weights_mem_each (j := 6) (t := 36) rfl rfl m hm))
    rw [show Try.prog.bytesOf 5 = 1 from by kernel_rfl, Nat.mul_one] at hle
    obtain rfl := seven hcl e0 e1 e2 e3 e4 e5 e6
    exact ⟨[.i n0, .i n1, .i n2, .i n3, .i n4, .i n5, .w l], ⟨[_], _, rfl, rfl, [_], _, rfl, rfl, [_], _, rfl, rfl, [_], _, rfl, rfl, [_], _, rfl, rfl, [_], _, rfl, rfl, [_], _, rfl, ⟨u, rfl, sl_known hsl⟩, rfl⟩, ⟨fun y hy => wf_u8 (hwf y hy), Nat.le_trans hle (by decide)⟩, hcl⟩
set_option maxRecDepth 10000 in
theorem open_msgs {H : Type} {enc : TypeId × Value → H} {W : World} {base : Nat} {v : Value} {d : DataW H} {ps : List MemPlace} (hval : Value.okWide Try.prog W .any base 44 v)
    (hd : DataW.Trod enc Try.prog W 0 (fun _ => true) true 44 v d ps) (hr : ∀ n ∈ d.weights Try.prog 44, n ≤ reachBytes) :
    ∃ sc : List Rec, A0Rel DB (cenv W) (.one (.prs mSh sc)) v ∧ sc.length ≤ 4611686018427387904 ∧ ∀ r ∈ sc, MsIn r := by
  obtain ⟨sc, h1, h2, h3⟩ := open_rows (n := 7) Try.underlying44 (by kernel_rfl) rfl (by decide) open_ms hval hd hr
  have hb : Try.prog.bytesOf 38 = 72 := by kernel_rfl
  rw [hb] at h2
  have h2' : sc.length * 72 ≤ 140737488351232 := h2
  exact ⟨sc, h1, by omega, h3⟩
end Go.Laws

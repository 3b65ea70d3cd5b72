/- Disk: the names, sorted. -/
import Derived.Test.YtakigppkbolmnaaD4
import Derived.Test.YtakigppkbolmnaaIter
namespace Go.Num
open Go.Abs Go.Proofs Go.Shelf Go.RowKit Go.Maps Go.Sort

section
variable {P : Program} {D : Dom}

theorem bst_push (n : Nat) (bs : List (BoxSt D.τ)) (h : bs.length = n) (s : BoxSt D.τ) : (bst n (bs ++ [s])).box = ((bst n bs).upd (.box n s)).box := by
  subst h
  funext i
  show _ = (bif Nat.beq i bs.length then s else (bst bs.length bs).box i)
  rw [bst_box, bst_box]
  by_cases hi : i = bs.length
  · subst hi
    rw [Nat.beq_refl]
    simp
  · rw [beq_ne hi]
    by_cases hlt : i < bs.length
    · rw [List.getElem?_append_left hlt]
      rfl
    · rw [List.getElem?_eq_none (by simp; omega), List.getElem?_eq_none (by omega)]
      rfl

/-- A new row of one's own is handed back. -/
theorem RR.newOwn {M : Mem} {w0 : World} {σ : Abs.Loc} {ν : Nat → Value} {n : Nat} {bs : List (BoxSt D.τ)} {w w' : World} (hR : RR D M w0 σ ν (bst n bs) w) (hn : bs.length = n) (hg : w.grownBy w' none) {e : TypeId} {p : Part D.τ} {m : Nat} {xs : List Value} {v : Value}
    (hown : w'.ownsL 0 e (esz D p) v m xs) (hp : PartRel D ((bst n bs).env D M w0 σ ν) p xs) (h1 : v.oneCell' = true) (hv : ∀ g, v.ownBlock = some g → w.heap.size ≤ g) :
    ∃ σ' ν', RR D M w0 σ' ν' (bst n (bs ++ [.dyn e p])) w' ∧ AVRel D ((bst n (bs ++ [.dyn e p])).env D M w0 σ' ν') (.v (.one (.own n))) v := by
  have hun : (bst n bs).box n = .un := by
    rw [bst_box, List.getElem?_eq_none (by omega)]
    rfl
  have hA : RA D M w0 σ ν (bst n bs) ⟨#[], []⟩ := ⟨rfl, rfl, fun t av h => by cases h⟩
  obtain ⟨σ', ν', h2, _, h4⟩ := lands_dynE hR hA (old := []) (qs := []) hun hown hp h1 hg (fun g h => by cases h) (fun g h => .inl (hv g h))
  have hbx : (bst n (bs ++ [.dyn e p])).box = ((bst n bs).bx [(n, .dyn e p)]).box := bst_push n bs hn _
  refine ⟨σ', ν', h2.same hbx rfl, ?_⟩
  have := env_same (M := M) (w0 := w0) (σ := σ') (ν := ν') hbx
  rw [this]
  exact h4

theorem grown_of_below {w w' : World} (h : Below w.heap.size w w') : w.grownBy w' none := ⟨h.os, h.tape, h.output, h.size, fun k hk _ => h.block k hk⟩

end

theorem keyOf_str {s : ByteArray} (h : s.size ≤ maxLen) : keyOf Try.prog 9 (.string s) = some (.string s.data.toList) := by
  rw [keyOf_string Try.underlying9]
  unfold mapKey
  simp [Try.underlying9, h]

set_option maxRecDepth 100000 in
theorem names_walk {H : Type} (b g nn : Nat) (D0 : DataW H) (R : Value → Option (DataW H × List MemPlace)) (w : World) (hown : w.ownsMap Try.prog 9 R b nn D0) (hmax : Maps.size D0 ≤ maxLen) (hbytes : Maps.size D0 * 16 ≤ 140737488355328)
    (h1 : w.cell? ⟨g, 1, none⟩ = some (.map (some b))) :
    Calls Try.prog 34 #[.pointer (some ⟨g, 0, none⟩)] w fun e w' => ∃ (v : Value) (ss : List (List UInt8)), e = .returned v ∧ ss.Perm (strKeys D0) ∧
      w'.ownsRow w.heap.size 9 1 v ss.length ((ss.mergeSort (fun x y => decide (x ≤ y))).map encStr) ∧ Below w.heap.size w w' := by
  refine (callsIn_wide (n := 6)).1 ?_
  have hfK : Fence.wide.fn 46 := trivial
  have hfS : Fence.wide.fn 45 := trivial
  refine callsIn_of_wp Try.func34 rfl trivial ?_ rfl
  simp only [Try.ntmps34, List.size_toArray, List.length_cons, List.length_nil, Nat.reduceAdd, Nat.reduceSub, Array.replicate_succ, Array.replicate_zero, List.push_toArray, List.append_toArray, List.nil_append, List.cons_append]
  gi_wp2_with (first
    | (gi_at_call 46; refine (Try.maps_Keys_f _ _).mono ?_; rintro e w' ⟨rfl, rfl⟩)
    | (gi_at_call 45; refine (Try.slices_Sorted_keys_f b nn D0 R w hown hmax hbytes).mono ?_; rintro e w' ⟨v, ss, rfl, hS, hrow, hnil, hb⟩))
  go_ret
  refine ⟨v, ss, rfl, hS, ?_, ((Below.refl _ w).alloc (Nat.le_refl _) _).trans (hb.mono (by simp))⟩
  obtain ⟨e1, e2⟩ := hrow
  refine ⟨e1, ?_⟩
  rcases e2 with e2 | ⟨g', cap, cur, q1, q2, q3⟩
  · exact Or.inl e2
  · refine Or.inr ⟨g', cap, cur, q1, ?_, q3⟩
    simp at q2
    omega

/-! What it answers -/

def keyL (es : List (Rec × Ob)) : List (List UInt8) := es.map fun e => (recS e.1 0).data.toList
/-- The names, sorted. -/
def sortK (es : List (Rec × Ob)) : List Rec := ((keyL es).mergeSort leB).map fun l => [Fd.s ⟨l.toArray⟩]
/-- Names are short. -/
def Short (es : List (Rec × Ob)) : Prop := es.length ≤ 1000000 ∧ ∀ e ∈ es, (recS e.1 0).size ≤ 1000000

theorem leB_trans (a b c : List UInt8) : leB a b = true → leB b c = true → leB a c = true := by
  simp only [leB, decide_eq_true_eq]
  exact fun h1 h2 => List.le_trans h1 h2
theorem leB_total (a b : List UInt8) : (leB a b || leB b a) = true := by
  simp only [leB, Bool.or_eq_true, decide_eq_true_eq]
  exact List.le_total a b
theorem leB_anti (a b : List UInt8) : leB a b = true → leB b a = true → a = b := by
  simp only [leB, decide_eq_true_eq]
  exact fun h1 h2 => List.le_antisymm h1 h2

theorem sort_perm {l l' : List (List UInt8)} (h : l.Perm l') : l.mergeSort leB = l'.mergeSort leB := by
  refine List.Perm.eq_of_pairwise (le := fun a b => leB a b = true) (fun a b _ _ h1 h2 => leB_anti a b h1 h2) (List.pairwise_mergeSort leB_trans leB_total l) (List.pairwise_mergeSort leB_trans leB_total l') ?_
  exact (List.mergeSort_perm l leB).trans (h.trans (List.mergeSort_perm l' leB).symm)

def nmRd : List (BoxSt DF.τ) → List (A0 DF.τ) → Option (List (Rec × Ob))
  | [.fixed t ps, .fam k es none], [.one (.ref 0 0)] => match ps with
    | [.int .i64 _ _, .mapr 1, _, _, _] => bif Nat.beq t 66 && Nat.beq k 0 then some es else none
    | _ => none
  | _, _ => none
def namesQ (bs : List (BoxSt DF.τ)) (xs : List (A0 DF.τ)) : Option (AV DF.τ × List (BoxSt DF.τ) × List Prop) :=
  match nmRd bs xs with
  | some es => some (.v (.one (.own 2)), bs ++ [.dyn 9 (.lrs [.str] (sortK es))], [Short es])
  | none => none

theorem nmRd_is {bs : List (BoxSt DF.τ)} {xs : List (A0 DF.τ)} {es : List (Rec × Ob)} (h : nmRd bs xs = some es) :
    xs = [.one (.ref 0 0)] ∧ bs.length = 2 ∧ ∃ lt room p3 p4 p5, (bst bs.length bs).box 0 = .fixed 66 [.int .i64 lt room, .mapr 1, p3, p4, p5] ∧ (bst bs.length bs).box 1 = .fam 0 es none := by
  unfold nmRd at h
  split at h
  · rename_i t ps k es'
    split at h
    · rename_i lt r p3 p4 p5
      cases hb : (Nat.beq t 66 && Nat.beq k 0) <;> simp only [hb, cond_true, cond_false] at h
      · cases h
      · obtain ⟨rfl, rfl⟩ := beq_and hb
        cases h
        exact ⟨rfl, rfl, lt, r, p3, p4, p5, rfl, rfl⟩
    · cases h
  · cases h

theorem str_rows (σ : Abs.Loc) : ∀ (ls : List (List UInt8)) (i : Nat) (r : Rec), (ls.map fun l => ([Fd.s ⟨l.toArray⟩] : Rec))[i]? = some r → RecRel σ [.str] 0 r (((ls.map encStr).drop (i * 1)).take 1)
  | [], i, r, h => by simp at h
  | l :: ls, 0, r, h => by
    simp only [List.map_cons, List.getElem?_cons_zero, Option.some.injEq] at h
    subst h
    exact ⟨[_], [], rfl, rfl, rfl⟩
  | l :: ls, i + 1, r, h => by
    simp only [List.map_cons, List.getElem?_cons_succ] at h
    have := str_rows σ ls i r h
    rw [Nat.mul_one] at this ⊢
    exact this

theorem names_ok : OpOK Try.prog DF 34 namesQ := by
  intro bs xs r bs' ps hF hps w σ ν vs hR hx
  unfold namesQ at hF
  split at hF
  · rename_i es hrd
    simp only [Option.some.injEq, Prod.mk.injEq] at hF
    obtain ⟨rfl, rfl, rfl⟩ := hF
    obtain ⟨hs1, hs2⟩ : Short es := hps _ (List.mem_cons_self ..)
    obtain ⟨rfl, hlen, lt, room, p3, p4, p5, hb0, hb1⟩ := nmRd_is hrd
    obtain ⟨v, us, rfl, ⟨_, _, hv⟩, rfl⟩ := hx
    simp only [List.cons.injEq, and_true] at hv
    subst hv
    obtain ⟨ens, clock, h1, h2, h3, h4, h5, _, _⟩ := fam_files hR hb1 (o := none) (Or.inl ⟨rfl, rfl⟩)
    have hx0 := hR.boxes 0
    rw [hb0] at hx0
    obtain ⟨cs, hcs, c1, c2, hc, h7, c3, c4, hc2, h8, h9⟩ := hx0
    have hcs' : cs.toList = [] ++ ([.int .i64 room, .map (some (σ 1))] ++ c4) := by
      rw [hc, hc2, show c1 = _ from h7, show c3 = _ from h8.2]
      rfl
    have hcell := cells_at hcs hcs'
    have hsz : ens.toList.length = es.length := by
      have : (ens.toList.map (·.key)).length = (es.map fun e => keyV false [.str] e.1).length := by rw [h3]
      simpa using this
    have hkv : ∀ e ∈ es, keyV false [.str] e.1 = .string (recS e.1 0) := by
      intro e he
      obtain ⟨s, hs⟩ := keyOK_str (h4 e he)
      rw [hs]; rfl
    have hkeys : ens.toList.map (·.key) = es.map fun e => Value.string (recS e.1 0) := by
      rw [h3]
      exact List.map_congr_left hkv
    have hrd1 : ∀ x ∈ ens.toList, ∃ e ∈ es, x.key = .string (recS e.1 0) := by
      intro x hx
      have : x.key ∈ es.map fun e => Value.string (recS e.1 0) := by rw [← hkeys]; exact List.mem_map.2 ⟨x, hx, rfl⟩
      obtain ⟨e, he, hke⟩ := List.mem_map.1 this
      exact ⟨e, he, hke.symm⟩
    let RC : Value → Option (DataW Unit × List MemPlace) := fun _ => some (.nil, [])
    have hrd2 : ∀ x ∈ ens.toList, Go.WideElems.rd Try.prog 9 RC x = some (.string (match x.key with | .string s => s.data.toList | _ => []), .nil) := by
      intro x hx
      obtain ⟨e, he, hke⟩ := hrd1 x hx
      unfold Go.WideElems.rd
      rw [hke, keyOf_str (by have := hs2 e he; unfold maxLen; omega)]
      rfl
    have hown : w.ownsMap Try.prog 9 RC (σ 1) ens.size (.map ((ens.toList.map (Go.WideElems.rg Try.prog 9 RC)).foldr DataW.insert [])) := by
      refine ⟨ens, clock, h1, ⟨?_, (Go.MapKept.stamped_iff ens clock).2 ⟨h2.2, h2.nodup, ?_⟩, fun x hx => ⟨_, hrd2 x hx⟩⟩, Nat.le_refl _, rfl⟩
      · rw [← Array.length_toList, hsz]; unfold maxLen; omega
      · have hnd : (ens.toList.map (·.key)).Nodup := by
          rw [hkeys]
          refine List.Pairwise.map _ (R := fun a b : Rec × Ob => recS a.1 0 ≠ recS b.1 0 ) (fun a b hab he => hab (by injection he)) ?_
          have h5' := List.pairwise_map.1 h5
          refine List.Pairwise.imp_of_mem ?_ h5'
          intro a b ha hb hab he
          obtain ⟨s, hs⟩ := keyOK_str (h4 a ha)
          obtain ⟨t, ht⟩ := keyOK_str (h4 b hb)
          refine hab ?_
          rw [hs, ht] at he ⊢
          have he' : s = t := he
          rw [he']
        exact List.pairwise_map.1 hnd
    have hsize : Maps.size (DataW.map ((ens.toList.map (Go.WideElems.rg Try.prog 9 RC)).foldr DataW.insert [])) = es.length := by
      show ((ens.toList.map (Go.WideElems.rg Try.prog 9 RC)).foldr DataW.insert []).length = _
      rw [(WideShapes.sorted_perm _).length_eq, List.length_map, hsz]
    have hst : (strKeys (DataW.map ((ens.toList.map (Go.WideElems.rg Try.prog 9 RC)).foldr DataW.insert []))).Perm (keyL es) := by
      refine ((WideShapes.sorted_perm (ens.toList.map (Go.WideElems.rg Try.prog 9 RC))).map fun p => strOf p.1).trans ?_
      rw [List.map_map]
      have : ens.toList.map ((fun p : Lit × DataW Unit => strOf p.1) ∘ Go.WideElems.rg Try.prog 9 RC) = keyL es := by
        have e1 : ens.toList.map ((fun p : Lit × DataW Unit => strOf p.1) ∘ Go.WideElems.rg Try.prog 9 RC) = (ens.toList.map (·.key)).map fun k => match k with | .string s => s.data.toList | _ => [] := by
          rw [List.map_map]
          refine List.map_congr_left fun x hx => ?_
          simp only [Function.comp_apply]
          rw [Go.WideElems.rg_of (hrd2 x hx)]
          cases x.key <;> rfl
        rw [e1, hkeys, List.map_map]
        rfl
      rw [this]
    refine ⟨_, _, enters_of Try.func34 (by kernel_rfl) rfl _ w, ?_⟩
    refine (names_walk (σ 1) (σ 0) ens.size _ RC w hown (by rw [hsize]; unfold maxLen; omega) (by rw [hsize]; omega) (hcell 1 _ rfl)).mono ?_
    rintro en w' ⟨v, ss, rfl, hperm, hrow, hbelow⟩
    refine ⟨v, rfl, ?_⟩
    have hsort : ss.mergeSort (fun x y => decide (x ≤ y)) = (keyL es).mergeSort leB := sort_perm (hperm.trans hst)
    rw [hsort] at hrow
    have hg := grown_of_below hbelow
    have hrow0 : w'.ownsL 0 9 1 v ss.length (((keyL es).mergeSort leB).map encStr) := by
      obtain ⟨e1, e2⟩ := hrow.loose
      refine ⟨e1, ?_⟩
      rcases e2 with e2 | ⟨g', cap, cur, q1, q2, q3⟩
      · exact Or.inl e2
      · exact Or.inr ⟨g', cap, cur, q1, Nat.zero_le _, q3⟩
    have h1c : v.oneCell' = true := by
      rcases hrow.2 with ⟨rfl, _⟩ | ⟨g', cap, cur, rfl, _⟩ <;> rfl
    rw [hlen]
    refine RR.newOwn (by rw [← hlen]; exact hR) hlen hg (e := 9) (p := .lrs [.str] (sortK es)) hrow0 ⟨?_, fun i r hi => ?_⟩ h1c ?_
    · unfold sortK
      simp [rsz, FK.size]
    · exact str_rows _ _ i r hi
    · intro g hgv
      rcases hrow.2 with ⟨rfl, _⟩ | ⟨g', cap, cur, rfl, q, _⟩
      · cases hgv
      · cases hgv
        exact q
  · cases hF

end Go.Num

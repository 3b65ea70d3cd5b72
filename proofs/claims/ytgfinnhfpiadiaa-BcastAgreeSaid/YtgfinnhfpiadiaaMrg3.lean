/- Several texts put together: AbsB AbsO AbsQ AbsT. -/
import Derived.Test.YtgfinnhfpiadiaaMrg2
namespace Go.Abs
open Go.RowKit
section
variable {P : Program} {D : Dom}
theorem bnd_value {M : Mem} {w0 : World} {σ : Loc} {ν : Nat → Value} {S : St D.τ} {a : Act} (hA : RA D M w0 σ ν S a) {y : Operand} {kd : IntKind} {lt : Bool} {i d : Int}
    (h : evalA S y = some (.v (.one (.int kd lt i)))) : Bnd d ((some y).map a.eval) i := by
  have := int_rel (evalA_rel hA h)
  simp only [Option.map_some, this]
  exact Bnd.some kd i
theorem bx_slot : ∀ (us : List (Nat × BoxSt D.τ)) (S : St D.τ), (S.bx us).slot = S.slot ∧ (S.bx us).nt = S.nt
  | [], _ => ⟨rfl, rfl⟩
  | (b, s) :: us, S => bx_slot us (S.upd (.box b s))
theorem bx_np : ∀ (us : List (Nat × BoxSt D.τ)) (S : St D.τ), (S.bx us).np = S.np
  | [], _ => rfl
  | (b, s) :: us, S => bx_np us (S.upd (.box b s))
theorem bx_old : ∀ (old : List Nat) (S : St D.τ) (nid : Nat) (s : BoxSt D.τ) (c : Nat),
    (S.bx (old.map (fun b => (b, .dead)) ++ [(nid, s)])).box c = if c = nid then s else if c ∈ old then .dead else S.box c
  | [], S, nid, s, c => by
    show (S.upd (.box nid s)).box c = _
    by_cases h : c = nid
    · subst h; rw [upd_box_same]; simp
    · rw [upd_box_other S s h]; simp [h]
  | b :: old, S, nid, s, c => by
    have ih := bx_old old (S.upd (.box b .dead)) nid s c
    show ((S.upd (.box b .dead)).bx (old.map (fun b => (b, .dead)) ++ [(nid, s)])).box c = _
    rw [ih]
    by_cases h : c = nid
    · simp [h]
    · by_cases h2 : c ∈ old
      · simp [h, h2]
      · by_cases h3 : c = b
        · subst h3; rw [upd_box_same]; simp [h]
        · rw [upd_box_other S _ h3]; simp [h, h2, h3]
theorem lands_dynE {M : Mem} {w0 : World} {σ : Loc} {ν : Nat → Value} {S : St D.τ} {a : Act} {w w' : World} (hR : RR D M w0 σ ν S w) (hA : RA D M w0 σ ν S a) {nid : Nat} (hun : S.box nid = .un)
    {old : List Nat} {e : TypeId} {p : Part D.τ} {n : Nat} {xs : List Value} {v : Value} {row : Option Nat} {qs : List Prop}
    (hown : w'.ownsL 0 e (esz D p) v n xs) (hp : PartRel D (S.env D M w0 σ ν) p xs) (h1 : v.oneCell' = true) (hg : w.grownBy w' row)
    (hrow : ∀ g, row = some g → ∃ b ∈ old, Fp D (S.env D M w0 σ ν) b (S.box b) g)
    (hv : ∀ g, v.ownBlock = some g → w.heap.size ≤ g ∨ ∃ b ∈ old, Fp D (S.env D M w0 σ ν) b (S.box b) g) :
    Lands M w0 S a ⟨.v (.one (.own nid)), old.map (fun b => (b, .dead)) ++ [(nid, .dyn e p)], qs⟩ v w' := by
  unfold Lands
  simp only
  generalize hS' : S.bx (old.map (fun b => (b, .dead)) ++ [(nid, .dyn e p)]) = S'
  have hbox : ∀ c, S'.box c = if c = nid then .dyn e p else if c ∈ old then .dead else S.box c := fun c => by rw [← hS']; exact bx_old old S nid _ c
  have hsl := bx_slot (old.map (fun b => (b, .dead)) ++ [(nid, .dyn e p)]) S
  rw [hS'] at hsl
  have hnn : S'.box nid = .dyn e p := by rw [hbox]; simp
  have hne : ∀ c, (S.box c).al → c ≠ nid := fun c h e => by subst e; rw [hun] at h; exact h
  have hle : (S.env D M w0 σ ν).le (S'.env D M w0 σ (setN ν nid v)) := by
    refine ⟨fun c h => ?_, fun _ _ => rfl, fun c h => setN_other _ _ (hne c h), rfl, rfl, ⟨rfl, rfl⟩, Loc.le_refl σ⟩
    show (S'.box c).al
    rw [hbox, if_neg (hne c h)]
    by_cases ho : c ∈ old
    · rw [if_pos ho]; trivial
    · rw [if_neg ho]; exact h
  have hbo : ∀ c g, c ≠ nid → Fp D (S'.env D M w0 σ (setN ν nid v)) c (S'.box c) g → c ∉ old ∧ Fp D (S.env D M w0 σ ν) c (S.box c) g := by
    intro c g hc h
    rw [hbox, if_neg hc] at h
    by_cases ho : c ∈ old
    · rw [if_pos ho] at h; cases h
    · rw [if_neg ho] at h
      refine ⟨ho, ?_⟩
      cases hs : S.box c <;> rw [hs] at h <;> simp only [Fp, blk] at h ⊢ <;> try exact h
      have e : setN ν nid v c = ν c := setN_other _ _ hc
      have h3 : (setN ν nid v c).ownBlock = some g := h
      rw [e] at h3
      exact h3
  have hbn : ∀ g, Fp D (S'.env D M w0 σ (setN ν nid v)) nid (S'.box nid) g → v.ownBlock = some g := by
    intro g h
    rw [hnn] at h
    have h3 : (setN ν nid v nid).ownBlock = some g := h
    rwa [setN_same] at h3
  refine ⟨σ, setN ν nid v, hR.step hle (· = nid) ?_ ?_ ?_ ?_ (hR.kept.grown hg fun g h => ?_) (by rw [← hS']; exact bx_np _ S) (hR.zk_grown hg fun g h => ?_) ?_ (fun b g _ h _ => hR.zd b g h) (fun g h => .inl h), hA.mono hle hsl.1 hsl.2, ?_⟩
  · rintro b rfl
    rw [hnn]
    refine ⟨n, xs, ?_, hp.mono hle, ?_⟩
    · show w'.ownsL 0 e (esz D p) (setN ν b v b) n xs
      rw [setN_same]; exact hown
    · show (setN ν b v b).oneCell' = true
      rw [setN_same]; exact h1
  · intro b hb
    rw [hbox, if_neg hb]
    by_cases ho : b ∈ old
    · rw [if_pos ho]; exact .inr rfl
    · rw [if_neg ho]
      refine .inl ⟨rfl, fun g hgb => hg.block g (blk_lt hR hgb) (fun e => ?_)⟩
      obtain ⟨b', hb', hbb⟩ := hrow g e.symm
      exact hR.disj b b' g (fun e => ho (e ▸ hb')) hgb hbb
  · rintro b b' g rfl hne' h1 h2
    have h1' := hbn g h1
    obtain ⟨ho, h2'⟩ := hbo b' g (Ne.symm hne') h2
    rcases hv g h1' with h | ⟨b2, hb2, hbb⟩
    · have := blk_lt hR h2'; omega
    · exact hR.disj b' b2 g (fun e => ho (e ▸ hb2)) h2' hbb
  · rintro b g rfl h
    rcases hv g (hbn g h) with h | ⟨b2, hb2, hbb⟩
    · exact .inl (by have := hR.kept.size; omega)
    · exact hR.lo b2 g hbb
  · obtain ⟨b, _, hb⟩ := hrow g h
    exact hR.lo b g hb
  · obtain ⟨b, _, hb⟩ := hrow g h
    exact hR.zd b g hb
  · rintro b g rfl h
    rcases hv g (hbn g h) with h | ⟨b2, hb2, hbb⟩
    · exact fun hz => by have := (hR.zk g hz).1; omega
    · exact hR.zd b2 g hbb
  · refine ⟨h1, ?_, ?_, ?_⟩
    · show (S'.box nid).al
      rw [hnn]; trivial
    · show (setN ν nid v nid).oneCell' = true
      rw [setN_same]; exact h1
    · show [v] = [setN ν nid v nid]
      rw [setN_same]
theorem lands_dyn {M : Mem} {w0 : World} {σ : Loc} {ν : Nat → Value} {S : St D.τ} {a : Act} {w w' : World} (hR : RR D M w0 σ ν S w) (hA : RA D M w0 σ ν S a) {nid : Nat} (hun : S.box nid = .un)
    {old : List Nat} {e : TypeId} {p : Part D.τ} {n : Nat} {xs : List Value} {v : Value} {row : Option Nat} {qs : List Prop}
    (hown : w'.ownsL 0 e 1 v n xs) (hp : PartRel D (S.env D M w0 σ ν) p xs) (h1 : v.oneCell' = true) (hg : w.grownBy w' row)
    (hrow : ∀ g, row = some g → ∃ b ∈ old, Fp D (S.env D M w0 σ ν) b (S.box b) g)
    (hv : ∀ g, v.ownBlock = some g → w.heap.size ≤ g ∨ ∃ b ∈ old, Fp D (S.env D M w0 σ ν) b (S.box b) g) (he : esz D p = 1 := by rfl) :
    Lands M w0 S a ⟨.v (.one (.own nid)), old.map (fun b => (b, .dead)) ++ [(nid, .dyn e p)], qs⟩ v w' :=
  lands_dynE hR hA hun (by rw [he]; exact hown) hp h1 hg hrow hv
theorem zeroInt_spec {e : TypeId} {k : IntKind} (h : zeroInt P e = some k) : ∃ i, P.info? e = some i ∧ i.zero = some (.int k 0) := by
  unfold zeroInt at h
  split at h
  · rename_i k' n hz
    obtain ⟨i, hi, hzz⟩ := Option.bind_eq_some_iff.1 hz
    by_cases hn : n = 0
    · subst hn
      simp at h
      subst h
      exact ⟨i, hi, hzz⟩
    · have : (n == 0) = false := by simpa using hn
      simp [this] at h
  · cases h
theorem madeCells_take (k : IntKind) (n c : Nat) (h : n ≤ c) : (madeCells (Value.int k 0).cells c).toList.take n = (List.replicate n 0).map (Value.int k) := by
  show (madeCells #[Value.int k 0] c).toList.take n = _
  rw [toList_madeCells_one, List.take_replicate, Nat.min_eq_left h, List.map_replicate]
theorem sound_makeSlice (nid : Nat) (t : TypeId) (x y : Operand) : Sound P D (oMakeSlice P D nid t x y) (fun ρ => do pure (.value (← Instr.makeSlice t (ρ x) (ρ y)))) := by
  intro S r l h hps M w0 a w ⟨σ, ν, hR, hA⟩
  unfold oMakeSlice at h
  obtain ⟨av, bv, l0, hav, hbv, h⟩ := pair_run h
  have hx := evalA_rel hA hav
  have hy := evalA_rel hA hbv
  obtain ⟨l2, h⟩ := box_run h
  split at h
  · rename_i hun
    split at h
    · rename_i kl ll n kc lc m _
      have hx' := int_rel hx
      have hy' := int_rel hy
      split at h
      · rename_i e ht
        split at h
        · rename_i hs
          split at h
          · rename_i k hz
            simp only [run_ret] at h
            obtain ⟨rfl, _⟩ := h
            have h0 : 0 ≤ n := hps _ (by simp)
            have h1 : n ≤ m := hps _ (by simp)
            have h2 : m ≤ 9223372036854775807 := hps _ (by simp)
            have h3 : (bytesOfT P e : Int) * m ≤ 281474976710656 := hps _ (by simp)
            obtain ⟨i, hi, hiz⟩ := zeroInt_spec hz
            obtain ⟨i', d, hi', hsz, hd⟩ := szOf_spec hs
            rw [hi] at hi'
            simp only [Option.some.injEq] at hi'
            subst hi'
            have hb : (i.bytes : Int) * m ≤ 281474976710656 := by
              have : bytesOfT P e = i.bytes := by simp [bytesOfT, hi]
              rw [← this]; exact h3
            have hr := run_make (P := P) w t e i _ ht hi hiz kl kc n m h0 h1 hb h2
            refine upTo_val (w' := w.alloc (.cells (madeCells (Value.int k 0).cells (m.toNat * i.size)) e)) (v := .slice (some ⟨w.heap.size, 0, none⟩) n.toNat m.toNat) ?_
              (lands_dyn (old := []) (row := none) (xs := (List.replicate n.toNat 0).map (Value.int k)) (n := n.toNat) hR hA hun ?_ rfl rfl (World.grownBy_alloc _ _ _) (by simp) (fun g hg => .inl ?_))
            · rw [hx', hy']; exact hr
            · refine ⟨by simp, .inr ⟨w.heap.size, m.toNat, _, rfl, Nat.zero_le _, Go.heap_alloc_new w _, by omega, by unfold maxLen; omega, ?_, ?_⟩⟩
              · rw [size_madeCells, hsz]; exact Nat.le_refl _
              · rw [Nat.mul_one, hsz, Nat.mul_one]
                exact madeCells_take k _ _ (by omega)
            · simp [Value.ownBlock] at hg; omega
          · simp at h
        · simp at h
      · simp at h
    · simp at h
  · simp at h
theorem foldl_set (off : Nat) : ∀ (vs : List Value) (j : Nat) (cs : Array Value), off + j + vs.length ≤ cs.size →
    ((vs.zipIdx j).foldl (fun cs (x : Value × Nat) => cs.setIfInBounds (off + x.2) x.1) cs).toList = cs.toList.take (off + j) ++ vs ++ cs.toList.drop (off + j + vs.length)
  | [], j, cs, _ => by simp
  | v :: vs, j, cs, h => by
    simp only [List.length_cons] at h
    rw [List.zipIdx_cons, List.foldl_cons, foldl_set off vs (j + 1) _ (by simp; omega)]
    simp only [Array.toList_setIfInBounds]
    have h1 : off + j < cs.toList.length := by simp; omega
    have hA : (cs.toList.take (off + j)).length = off + j := by simp; omega
    rw [List.set_eq_take_append_cons_drop, if_pos h1]
    generalize hAe : cs.toList.take (off + j) = A at hA
    have e1 : (A ++ v :: cs.toList.drop (off + j + 1)).take (off + (j + 1)) = A ++ [v] := by
      rw [show off + (j + 1) = A.length + 1 from by omega, List.take_length_add_append]
      simp
    have e2 : (A ++ v :: cs.toList.drop (off + j + 1)).drop (off + (j + 1) + vs.length) = cs.toList.drop (off + j + (vs.length + 1)) := by
      rw [show off + (j + 1) + vs.length = A.length + (vs.length + 1) from by omega, List.drop_length_add_append]
      simp only [List.drop_succ_cons, List.drop_drop]
      congr 1
      omega
    rw [e1, e2]
    simp
theorem lay_rel {E : Env} {pl : Nat → Option (Nat × Nat)} : ∀ {is : List Nat} {as : List (AV D.τ)} {zs ps : List (Part D.τ)} {vs : List Value} {cs : Array Value}, lay D pl is as zs = some ps → AVsRel E as vs → PartsRel D E zs cs.toList →
    ∃ cells, Instr.fill pl cs (is.zip vs) = some cells ∧ PartsRel D E ps cells.toList
  | [], [], zs, ps, vs, cs, h, hv, hz => by
    simp [lay] at h
    subst h
    exact ⟨cs, by simp [Instr.fill], hz⟩
  | i :: is, a :: as, zs, ps, vs, cs, h, hv, hz => by
    obtain ⟨v, us, rfl, hv1, hv2⟩ := hv
    simp only [lay] at h
    cases hp : pl i with
    | none => simp [hp] at h
    | some x =>
      obtain ⟨off, n⟩ := x
      simp only [hp] at h
      cases hq : partsOf a with
      | none => simp [hq] at h
      | some qs =>
        simp only [hq] at h
        cases hs : splitP D zs off n with
        | none => simp [hs] at h
        | some y =>
          obtain ⟨y1, y2, y3⟩ := y
          simp only [hs] at h
          cases hb : Nat.beq ((qs.map (psize D)).sum) n <;> simp only [hb, cond_true, cond_false] at h
          · cases h
          · have hsum : (qs.map (psize D)).sum = n := Nat.eq_of_beq_eq_true hb
            obtain ⟨c1, c2, c3, he, hl1, hl2, hr1, hr2, hr3⟩ := splitP_sound hs hz
            have hq' := partsOf_rel hq hv1
            have hlen : v.cells.toList.length = n := by rw [hq'.len]; exact hsum
            have hsz : v.cells.size = n := by rw [← hlen]; simp
            have hcs : cs.size = c1.length + (c2.length + c3.length) := by rw [← Array.length_toList, he]; simp
            have hset := foldl_set off v.cells.toList 0 cs (by omega)
            have e1 : (c1 ++ (c2 ++ c3)).take off = c1 := by rw [← hl1]; exact List.take_left
            have e2 : (c1 ++ (c2 ++ c3)).drop (off + n) = c3 := by rw [← List.append_assoc, ← hl1, ← hl2, ← List.length_append]; exact List.drop_left
            rw [he, Nat.add_zero, hlen, e1, e2] at hset
            have hz' : PartsRel D E (y1 ++ qs ++ y3) ((v.cells.toList.zipIdx 0).foldl (fun cs (x : Value × Nat) => cs.setIfInBounds (off + x.2) x.1) cs).toList := by
              rw [hset]
              simp only [List.append_assoc]
              exact hr1.append (hq'.append hr3)
            obtain ⟨cells, hf, hc⟩ := lay_rel h hv2 hz'
            refine ⟨cells, ?_, hc⟩
            have hle : ¬ (v.cells.size ≠ n ∨ off + v.cells.size > cs.size) := by omega
            simp only [List.zip_cons_cons, Instr.fill, hp]
            rw [if_neg (by simpa using hle)]
            rw [← hf]
            congr 1
            rw [← Array.foldl_toList, Array.toList_zipIdx]
  | [], _ :: _, _, _, _, _, h, _, _ => by simp [lay] at h
  | _ :: _, [], _, _, _, _, h, _, _ => by simp [lay] at h
theorem placesOf_spec {t : TypeId} {pl : Nat → Option (Nat × Nat)} {i : TypeInfo} {z : Value} (h : placesOf P t = some pl) (hi : P.info? t = some i) (hz : i.zero = some z) (parts : List (Nat × Value)) :
    P.built t parts = Instr.fill pl z.cells parts := by
  unfold placesOf at h
  unfold Program.built
  split at h
  · rename_i fs hu
    split at h
    · rename_i pls hpl
      simp only [Option.some.injEq] at h
      subst h
      simp only [hi, hu, hz, hpl]
    · cases h
  · rename_i n e hu
    split at h
    · rename_i ie hie
      simp only [Option.some.injEq] at h
      subst h
      simp only [hi, hu, hz, hie]
    · cases h
  · cases h
theorem sound_build (t : TypeId) (parts : Array (Nat × Operand)) : Sound P D (oBuild P D t parts.toList) (fun ρ => do pure (.value (← Instr.build t (parts.map fun (i, x) => (i, ρ x))))) := by
  intro S r l h hps M w0 a w ⟨σ, ν, hR, hA⟩
  unfold oBuild at h
  split at h
  · rename_i zs hzs
    split at h
    · rename_i pl hpl
      obtain ⟨as, l1, has, h⟩ := rdAs_run h
      split at h
      · rename_i cs hcs
        simp only [run_ret] at h
        obtain ⟨rfl, _⟩ := h
        obtain ⟨i, z, hi, hz, hzp⟩ := zeroParts_spec (P := P) hzs
        have hvs := evalAs_rel hA has
        obtain ⟨cells, hf, hc⟩ := lay_rel hcs hvs (hzp _)
        refine upTo_val (v := .agg cells) (w' := w) (run_build w t _ cells ?_) (lands_pure hR hA ⟨cells.toList, by simp, hc⟩)
        rw [placesOf_spec hpl hi hz]
        rw [← hf]
        congr 1
        rw [Array.toList_map, List.map_map]
        generalize parts.toList = L
        induction L with
        | nil => rfl
        | cons p L ih => simp [ih]
      · simp at h
    · simp at h
  · simp at h
theorem vals_rel {E : Env} {k : IntKind} : ∀ {i : Nat} {js : List Nat} {as : List (AV D.τ)} {l : List Int} {vs : List Value}, vals D k i js as = some l → AVsRel E as vs →
    vs = l.map (Value.int k) ∧ js = (List.range l.length).map (i + ·)
  | i, [], [], l, vs, h, hv => by
    simp [vals] at h
    subst h
    cases hv
    simp
  | i, j :: js, a :: as, l, vs, h, hv => by
    obtain ⟨v, us, rfl, hv1, hv2⟩ := hv
    unfold vals at h
    split at h
    · rename_i he _; cases he
    · rename_i i' j' js' k' lt n as' he1 he2
      simp only [List.cons.injEq] at he1 he2
      obtain ⟨rfl, rfl⟩ := he1
      obtain ⟨rfl, rfl⟩ := he2
      generalize hb : Nat.beq _ _ = bb at h
      cases bb <;> simp only [cond_true, cond_false] at h
      · cases h
      · have hij := Nat.eq_of_beq_eq_true hb
        subst hij
        split at h
        · rename_i hk
          subst hk
          obtain ⟨l', hl', rfl⟩ := Option.map_eq_some_iff.1 h
          obtain ⟨e1, e2⟩ := vals_rel hl' hv2
          refine ⟨by rw [int_rel hv1, e1]; rfl, ?_⟩
          rw [e2, List.length_cons, List.range_succ_eq_map]
          simp only [List.map_cons, List.map_map, Nat.add_zero, List.cons.injEq, true_and]
          apply List.map_congr_left
          intro x _
          show _ + 1 + x = _ + (x + 1)
          omega
        · cases h
    · cases h
  | _, [], _ :: _, _, _, h, _ => by simp [vals] at h
  | _, _ :: _, [], _, _, h, _ => by simp [vals] at h
theorem fill_seq {k : IntKind} : ∀ (l : List Int) (m : Nat) (cs : Array Value), cs.size = m + l.length →
    Instr.fill (fun i => some (i * 1, 1)) cs (((List.range l.length).map (m + ·)).zip (l.map (Value.int k))) = some (cs.toList.take m ++ l.map (Value.int k)).toArray
  | [], m, cs, h => by simp [Instr.fill]; rw [List.take_of_length_le (by simp at h ⊢; omega)]
  | n :: l, m, cs, h => by
    simp only [List.length_cons] at h
    have ih := fill_seq (k := k) l (m + 1) (cs.setIfInBounds m (.int k n)) (by simp; omega)
    rw [List.length_cons, List.range_succ_eq_map]
    simp only [List.map_cons, List.map_map, Nat.add_zero, List.zip_cons_cons, Instr.fill, Nat.mul_one]
    have hc : (Value.int k n).cells = #[.int k n] := rfl
    rw [hc]
    have hle : ¬ ((#[Value.int k n] : Array Value).size ≠ 1 ∨ m + (#[Value.int k n] : Array Value).size > cs.size) := by simp; omega
    rw [if_neg (by simpa using hle)]
    have e : ((#[Value.int k n] : Array Value).zipIdx.foldl (fun cs (x : Value × Nat) => cs.setIfInBounds (m + x.2) x.1) cs) = cs.setIfInBounds m (.int k n) := by
      rw [← Array.foldl_toList, Array.toList_zipIdx]; rfl
    have e2 : (List.map ((fun x => m + x) ∘ Nat.succ) (List.range l.length)) = (List.range l.length).map (m + 1 + ·) := by
      apply List.map_congr_left
      intro x _
      show m + (x + 1) = m + 1 + x
      omega
    rw [e2]
    simp only [Nat.mul_one] at ih ⊢
    rw [e, ih]
    congr 1
    apply congrArg List.toArray
    rw [Array.toList_setIfInBounds, List.take_set, List.set_eq_take_append_cons_drop, if_pos (by simp; omega)]
    simp [List.take_take]
theorem run_buildSliceB {t e : TypeId} {k : IntKind} {parts : Array (Nat × Value)} {l : List Int} {w : World} (ht : P.underlying t = some (.slice e)) (hs : szOf P e = some 1) (hz : zeroInt P e = some k) (hl : l.length ≤ 16777216)
    (hf : ∀ Z : Array Value, Z.size = l.length → Instr.fill (fun i => some (i * 1, 1)) Z parts.toList = some (l.map (Value.int k)).toArray) :
    (Instr.buildSlice t l.length parts).run P w = .ok (.slice (some ⟨w.heap.size, 0, none⟩) l.length l.length) (w.alloc (.cells (l.map (Value.int k)).toArray e)) := by
  obtain ⟨i, hi, hiz⟩ := zeroInt_spec hz
  have hle : ¬ (16777216 < l.length) := by omega
  unfold Instr.buildSlice
  by_cases h0 : l.length = 0
  · simp only [Sem.run_bind, run_underlying ht, Result.andThen_ok, run_sizeOfB hs, Nat.mul_one, h0]
    simp only [Nat.mul_one] at hf
    simp
    rw [hf _ (by simp [h0])]
    simp [newRow]
  · simp only [Sem.run_bind, run_underlying ht, Result.andThen_ok, run_sizeOfB hs, Nat.mul_one]
    simp only [Nat.mul_one] at hf
    simp [hle, h0, zeroValue, typeInfo, hi, hiz, Value.cells]
    rw [hf _ (by simp)]
    simp [newRow]
theorem sound_buildSlice (nid : Nat) (t : TypeId) (len : Nat) (parts : Array (Nat × Operand)) : Sound P D (oBuildSlice P D nid t len parts.toList) (fun ρ => do pure (.value (← Instr.buildSlice t len (parts.map fun (i, x) => (i, ρ x))))) := by
  intro S r l h hps M w0 a w ⟨σ, ν, hR, hA⟩
  unfold oBuildSlice at h
  obtain ⟨as, l1, has, h⟩ := rdAs_run h
  have hvs := evalAs_rel hA has
  obtain ⟨l2, h⟩ := box_run h
  split at h
  · rename_i hun
    split at h
    · rename_i e ht
      split at h
      · rename_i k hz
        split at h
        · rename_i hs
          split at h
          · rename_i il hil
            generalize hb : (Nat.beq il.length len && Nat.ble len 16777216) = bb at h
            cases bb <;> simp only [cond_true, cond_false, run_fail] at h
            simp only [run_ret] at h
            obtain ⟨rfl, _⟩ := h
            simp only [Bool.and_eq_true] at hb
            have h1 := Nat.eq_of_beq_eq_true hb.1
            have h2 := Nat.le_of_ble_eq_true hb.2
            subst h1
            obtain ⟨e1, e2⟩ := vals_rel hil hvs
            have hparts : (parts.map fun (x : Nat × Operand) => (x.1, a.eval x.2)).toList = ((List.range il.length).map (0 + ·)).zip (il.map (Value.int k)) := by
              rw [← e1, ← e2, Array.toList_map]
              generalize parts.toList = L
              induction L with
              | nil => rfl
              | cons p L ih => simp [ih]
            have hrun := run_buildSliceB (P := P) (w := w) (parts := parts.map fun (x : Nat × Operand) => (x.1, a.eval x.2)) ht hs hz h2 (by
              intro Z hZ
              rw [hparts, fill_seq il 0 Z (by omega)]
              simp)
            refine upTo_val hrun (lands_dyn (old := []) (row := none) (xs := il.map (Value.int k)) (n := il.length) hR hA hun ?_ rfl rfl (World.grownBy_alloc _ _ _) (by simp) (fun g hg => .inl ?_))
            · refine ⟨by simp, .inr ⟨w.heap.size, il.length, _, rfl, Nat.zero_le _, Go.heap_alloc_new w _, Nat.le_refl _, by unfold maxLen; omega, by simp, ?_⟩⟩
              rw [Nat.mul_one]
              exact List.take_of_length_le (by simp)
            · simp [Value.ownBlock] at hg; omega
          · simp at h
        · simp at h
      · simp at h
    · simp at h
  · simp at h
def cenv (w : World) : Env := ⟨fun _ => False, ⟨fun _ => 0, w, fun g => g < w.heap.size, fun _ _ => False⟩, fun _ => undef, w, fun _ => False, none⟩
theorem SlsRel.sub {M M' : Nat → Prop} {W W' : World} {k : IntKind} {l : List (List Int)} {v : Value} (h : SlsRel M W k l v) (hs : Sub M W M' W') : SlsRel M' W' k l v := by
  obtain ⟨ao, cap, e, h1, h2, h3, h4⟩ := h
  refine ⟨ao, cap, e, h1, h2, h3, fun i hi => ?_⟩
  obtain ⟨b, off, u, e1, e2, e3, e4⟩ := h4 i hi
  obtain ⟨q1, q2⟩ := hs b e2 (World.block_lt_of_cell? _ _ e3)
  exact ⟨b, off, u, e1, q1, by rw [← e3]; exact World.cell?_of_block q2, e4.sub hs⟩
theorem sl_own {M : Nat → Prop} {w : World} {e : TypeId} {v : Value} {n : Nat} {k : IntKind} {l : List Int} (h : w.ownsL 0 e 1 v n (l.map (Value.int k))) (hM : ∀ g, v.ownBlock = some g → ¬ M g) : SlRel M w k l v := by
  have hn : l.length = n := by have := h.1; simpa using this
  subst hn
  rcases h.2 with ⟨rfl, h0⟩ | ⟨g, cap, cur, rfl, _, hcur, hnc, hcm, hcs, htk⟩
  · exact ⟨none, 0, by rw [h0], by omega, Nat.zero_le _, fun _ => rfl, fun i hi => by omega⟩
  · refine ⟨_, cap, rfl, hnc, hcm, (fun h => by cases h), fun i hi => ⟨g, 0, rfl, hM g rfl, ?_⟩⟩
    have := h.cells (g := g) rfl i _ (getD_ints hi)
    rwa [Addr.add_lit] at this
def Foot (D : Dom) (M : Mem) (w0 : World) (σ : Loc) (ν : Nat → Value) (S : St D.τ) (ids : List Nat) (Mp : Nat → Prop) : Prop :=
  ∀ g, Mp g → ∃ b ∈ ids, Fp D (S.env D M w0 σ ν) b (S.box b) g
theorem any_beq_false {ids : List Nat} {b : Nat} (h : ids.any (Nat.beq b) = false) : b ∉ ids := by
  intro hm
  have : ids.any (Nat.beq b) = true := List.any_eq_true.2 ⟨b, hm, Nat.beq_refl b⟩
  rw [h] at this; cases this
theorem RR.foot_no {M : Mem} {w0 : World} {σ : Loc} {ν : Nat → Value} {S : St D.τ} {w : World} (hR : RR D M w0 σ ν S w) {ids : List Nat} {Mp : Nat → Prop} (hMp : Foot D M w0 σ ν S ids Mp) {b g : Nat}
    (hb : b ∉ ids) (hg : Fp D (S.env D M w0 σ ν) b (S.box b) g) : ¬ Mp g := by
  intro hm
  obtain ⟨b', h1, h2⟩ := hMp g hm
  exact hR.disj b b' g (fun e => hb (e ▸ h1)) hg h2
theorem RR.base_sub {M : Mem} {w0 : World} {σ : Loc} {ν : Nat → Value} {S : St D.τ} {w : World} (hR : RR D M w0 σ ν S w) {ids : List Nat} {Mp : Nat → Prop} (hMp : Foot D M w0 σ ν S ids Mp)
    {M1 : Nat → Prop} {W1 : World} (hB : Base (S.env D M w0 σ ν) M1 W1) : Sub M1 W1 Mp w := fun b hb hlt => by
  obtain ⟨h1, h2⟩ := hR.base_now hB b hb hlt
  exact ⟨fun hm => by obtain ⟨c, _, hc⟩ := hMp b hm; exact h1 c hc, h2⟩
theorem rel_words {F : Env} {Mp : Nat → Prop} {w : World} (hM : F.M = Mp) (hw : F.w0 = w) {k : IntKind} {l : List Int} {v : Value} (h : SlRel Mp w k l v) : PartRel D F (.words k l) [v] :=
  ⟨v, rfl, F.M, F.w0, .inl ⟨rfl, rfl⟩, by rw [hM, hw]; exact h⟩
theorem foot_nil {M : Mem} {w0 : World} {σ : Loc} {ν : Nat → Value} {S : St D.τ} : Foot D M w0 σ ν S [] (fun _ => False) := fun _ h => h.elim
theorem rs_own {E : Env} {w : World} {e : TypeId} {v : Value} {n : Nat} {xs : List Value} {sh : List FK} {ll : List Rec} {τ : Loc} (hown : w.ownsL 0 e (rsz sh) v n xs) (hxs : PartRel D E (.lrs sh ll) xs) (h1 : 1 ≤ rsz sh)
    (hz : E.σ.le τ) (hw : τ.zw = w) (hm : ∀ g, v.ownBlock = some g → g < w.heap.size → τ.zm g) : RsRel τ sh ll v := by
  obtain ⟨hl, hrec⟩ := hxs
  have hn : n = ll.length := by
    have := hown.1
    rw [hl] at this
    exact (Nat.eq_of_mul_eq_mul_right (by omega) this).symm
  subst hn
  rcases hown.2 with ⟨hνe, h0⟩ | ⟨g, cap, cur, hνe, _, hcur, hnc, hcm, hcs, htk⟩
  · exact ⟨none, 0, by rw [hνe, h0], by omega, Nat.zero_le _, fun _ => rfl, fun i r hi => by have := (List.getElem?_eq_some_iff.1 hi).1; omega⟩
  · refine ⟨_, cap, hνe, hnc, hcm, (fun h => by cases h), fun i r hi => ⟨g, 0, _, rfl, hm g (by rw [hνe]; rfl) (Array.getElem?_eq_some_iff.1 hcur).1, (hrec i r hi).mono hz, fun j v hj => ?_⟩⟩
    rw [List.getElem?_take] at hj
    split at hj
    · rw [List.getElem?_drop] at hj
      have hc := hown.cells (g := g) (by rw [hνe]; rfl) _ _ hj
      rw [Addr.add_lit] at hc
      rw [hw, Nat.add_assoc]
      exact hc
    · cases hj
theorem lend_sound {α : Type} {M : Mem} {w0 : World} {σ : Loc} {ν : Nat → Value} {S : St D.τ} {w : World} (hR : RR D M w0 σ ν S w) {al : Bool} {ids : List Nat} {Mp : Nat → Prop} (hMp : Foot D M w0 σ ν S ids Mp) {t : Option TypeId} {p : Part D.τ} {k : Part D.τ → Rd D.τ α} {r : α} {l : List Ref} {cs : List Value}
    (h : (lend P D al ids t p k).run S = some (r, l)) (hp : PartRel D (S.env D M w0 σ ν) p cs) : ∃ q l', (k q).run S = some (r, l') ∧ ∀ F : Env, F.M = Mp → F.w0 = w → σ.le F.σ → (al = true → F.σ.zw = w ∧ ∀ g, g < w.heap.size → F.σ.zm g) → PartRel D F q cs := by
  unfold lend at h
  split at h
  · simp only [PartRel] at hp
    have hw : ∀ kd (F : Env), F.M = Mp → F.w0 = w → σ.le F.σ → (al = true → F.σ.zw = w ∧ ∀ g, g < w.heap.size → F.σ.zm g) → PartRel D F (.words kd []) cs := fun kd F _ _ _ _ => ⟨_, hp, F.M, F.w0, .inl ⟨rfl, rfl⟩, none, 0, rfl, by simp, Nat.zero_le _, fun _ => rfl, fun i hi => by simp at hi⟩
    have hws : ∀ kd (F : Env), F.M = Mp → F.w0 = w → σ.le F.σ → (al = true → F.σ.zw = w ∧ ∀ g, g < w.heap.size → F.σ.zm g) → PartRel D F (.wordss kd []) cs := fun kd F _ _ _ _ => ⟨_, hp, none, 0, rfl, by simp, Nat.zero_le _, fun _ => rfl, fun i hi => by simp at hi⟩
    split at h
    · exact ⟨_, _, h, fun F _ _ _ _ => hp⟩
    · split at h
      · exact ⟨_, _, h, hw _⟩
      · exact ⟨_, _, h, hws _⟩
  · rename_i b
    cases hbi : ids.any (Nat.beq b) <;> simp only [hbi, cond_true, cond_false, run_fail] at h
    · have hbn := any_beq_false hbi
      obtain ⟨l1, h⟩ := box_run h
      have hb := hR.boxes b
      split at h
      · rename_i e kd il hbx
        rw [hbx] at hb
        obtain ⟨n, xs, hown, hxs, _⟩ := hb
        simp only [PartRel] at hxs
        subst hxs
        refine ⟨_, _, h, fun F hM hw hz hal => ?_⟩
        rw [hp.2.2]
        exact rel_words hM hw (sl_own hown fun g hg => hR.foot_no hMp hbn (by rw [hbx]; exact hg))
      · rename_i e kd ll hbx
        rw [hbx] at hb
        obtain ⟨n, xs, hown, hxs, _⟩ := hb
        obtain ⟨hxl, hxs⟩ := hxs
        have hown' : w.ownsL 0 e 1 (ν b) n xs := hown
        refine ⟨_, _, h, fun F hM hw hz hal => ?_⟩
        refine ⟨ν b, hp.2.2, ?_⟩
        rw [hM, hw]
        have hn : xs.length = n := by have := hown'.1; simpa using this
        rcases hown'.2 with ⟨hνe, h0⟩ | ⟨g, cap, cur, hνe, _, hcur, hnc, hcm, hcs, htk⟩
        · have : ll.length = 0 := by omega
          exact ⟨none, 0, by rw [hνe, this], by omega, Nat.zero_le _, fun _ => rfl, fun i hi => by omega⟩
        · refine ⟨_, cap, by rw [hνe, ← hxl, hn], by omega, hcm, (fun h => by cases h), fun i hi => ?_⟩
          have hix : i < xs.length := by omega
          have hc := hown'.cells (g := g) (by rw [hνe]; rfl) i _ (List.getElem?_eq_getElem hix)
          rw [Addr.add_lit] at hc
          obtain ⟨M1, W1, hB, hs⟩ := hxs i _ (List.getElem?_eq_getElem hix)
          exact ⟨g, 0, _, rfl, hR.foot_no hMp hbn (by rw [hbx]; show (ν b).ownBlock = _; rw [hνe]; rfl), hc, hs.sub (hR.base_sub hMp hB)⟩
      · rename_i e sh ll hbx
        rw [hbx] at hb
        obtain ⟨n, xs, hown, hxs, _⟩ := hb
        cases hal0 : (al && Nat.ble 1 (rsz sh)) <;> simp only [hal0, cond_true, cond_false, run_fail] at h
        simp only [Bool.and_eq_true] at hal0
        refine ⟨_, _, h, fun F hM hw hz hal => ?_⟩
        obtain ⟨hzw, hzm⟩ := hal hal0.1
        refine ⟨ν b, hp.2.2, ?_⟩
        exact rs_own (E := S.env D M w0 σ ν) hown hxs (Nat.le_of_ble_eq_true hal0.2) hz hzw (fun g _ h => hzm g h)
      · simp at h
  · rename_i b base N lo n cap
    cases hbi : ids.any (Nat.beq b) <;> simp only [hbi, cond_true, cond_false, run_fail] at h
    · have hbn := any_beq_false hbi
      obtain ⟨l1, h⟩ := box_run h
      have hb := hR.boxes b
      split at h
      · rename_i ty ps hbx
        rw [hbx] at hb
        obtain ⟨cs', hg, hps⟩ := hb
        split at h
        · rename_i kd hkd
          split at h
          · rename_i m1 m m2 hsp
            split at h
            · rename_i il hil
              obtain ⟨c1, c2, c3, he, hl1, hl2, hr1, hr2, hr3⟩ := splitP_sound hsp hps
              have hc2 := allInts_rel hil hr2
              have hcell := cells_at (w := w) hg he
              rw [hl1] at hcell
              have hn : il.length = N := by rw [← hl2, hc2]; simp
              obtain ⟨hal, hlo, hnc, hcm, hcs⟩ := hp
              have hlen : ((il.drop lo).take n).length = n := by rw [List.length_take, List.length_drop]; omega
              refine ⟨_, _, h, fun F hM hw hz hal => ?_⟩
              rw [hcs]
              refine rel_words hM hw ⟨some ⟨(S.env D M w0 σ ν).σ b, base + lo, none⟩, cap, by rw [hlen], by rw [hlen]; exact hnc, hcm, (fun h => by cases h), fun i hi => ⟨_, _, rfl, hR.foot_no hMp hbn (by rw [hbx]; rfl), ?_⟩⟩
              rw [hlen] at hi
              have := hcell (lo + i) _ (by rw [hc2]; exact getD_ints (by omega))
              rw [Addr.add_lit] at this
              have e : ((il.drop lo).take n).getD i 0 = il.getD (lo + i) 0 := by
                simp only [List.getD_eq_getElem?_getD, List.getElem?_take, List.getElem?_drop, if_pos hi]
              rw [e, Nat.add_assoc]
              exact this
            · simp at h
          · simp at h
        · simp at h
      · simp at h
  · rename_i b off n cap
    cases hbi : ids.any (Nat.beq b) <;> simp only [hbi, cond_true, cond_false, run_fail] at h
    · have hbn := any_beq_false hbi
      obtain ⟨l1, h⟩ := box_run h
      have hb := hR.boxes b
      split at h
      · rename_i ty ps hbx
        rw [hbx] at hb
        obtain ⟨cs', hg, hps⟩ := hb
        split at h
        · rename_i kd hkd
          split at h
          · rename_i m1 m m2 hsp
            split at h
            · rename_i il hil
              obtain ⟨c1, c2, c3, he, hl1, hl2, hr1, hr2, hr3⟩ := splitP_sound hsp hps
              have hc2 := allInts_rel hil hr2
              have hcell := cells_at (w := w) hg he
              rw [hl1] at hcell
              have hn : il.length = n := by rw [← hl2, hc2]; simp
              refine ⟨_, _, h, fun F hM hw hz hal => ?_⟩
              rw [hp.2.2.2]
              refine rel_words hM hw ⟨some ⟨(S.env D M w0 σ ν).σ b, off, none⟩, cap, by rw [hn], by rw [hn]; exact hp.2.1, hp.2.2.1, (fun h => by cases h), fun i hi => ⟨_, _, rfl, hR.foot_no hMp hbn (by rw [hbx]; rfl), ?_⟩⟩
              have := hcell i _ (by rw [hc2]; exact getD_ints hi)
              rwa [Addr.add_lit] at this
            · simp at h
          · simp at h
        · simp at h
      · simp at h
  · rename_i b lo n
    cases hbi : ids.any (Nat.beq b) <;> simp only [hbi, cond_true, cond_false, run_fail] at h
    · have hbn := any_beq_false hbi
      obtain ⟨l1, h⟩ := box_run h
      have hb := hR.boxes b
      split at h
      · rename_i e kd il hbx
        rw [hbx] at hb
        obtain ⟨n', xs, hown, hxs, _⟩ := hb
        simp only [PartRel] at hxs
        subst hxs
        obtain ⟨hal, g, len, cap, c2, hν, hle, hc, hm, hcs⟩ := hp
        have hown' : w.ownsL 0 e 1 (ν b) n' (il.map (Value.int kd)) := hown
        have hν' : ν b = .slice (some ⟨g, 0, none⟩) len cap := hν
        have hfoot : ¬ Mp g := hR.foot_no hMp hbn (by rw [hbx]; show (ν b).ownBlock = _; rw [hν']; rfl)
        rw [hν'] at hown'
        have hn' : il.length = n' := by have := hown'.1; simpa using this
        have hlen : len = n' := by
          rcases hown'.2 with ⟨e0, _⟩ | ⟨g2, cap2, cur, e0, _⟩
          · cases e0
          · cases e0
            rfl
        have hl : ((il.drop lo).take n).length = n := by rw [List.length_take, List.length_drop]; omega
        refine ⟨_, _, h, fun F hM hw hz hal => ?_⟩
        rw [hcs]
        refine rel_words hM hw ⟨some ⟨g, lo, none⟩, c2, by rw [hl], by rw [hl]; exact hc, hm, (fun h => by cases h), fun i hi => ⟨_, _, rfl, hfoot, ?_⟩⟩
        rw [hl] at hi
        have := hown'.cells (g := g) rfl (lo + i) _ (getD_ints (by omega))
        rw [Addr.add_lit, Nat.zero_add] at this
        have e : ((il.drop lo).take n).getD i 0 = il.getD (lo + i) 0 := by
          simp only [List.getD_eq_getElem?_getD, List.getElem?_take, List.getElem?_drop, if_pos hi]
        rw [e]
        exact this
      · simp at h
  · obtain ⟨v, e, hs⟩ := hp
    refine ⟨_, _, h, fun F hM hw hz hal => ?_⟩
    rw [e]
    exact rel_words hM hw (hs.sub (hR.base_sub hMp (.inr ⟨rfl, rfl⟩)))
  · exact ⟨_, _, h, fun F _ _ _ _ => hp⟩
  · exact ⟨_, _, h, fun F _ _ _ _ => hp⟩
  · obtain ⟨v, e, M1, W1, hB, hs⟩ := hp
    refine ⟨_, _, h, fun F hM hw hz hal => ?_⟩
    rw [e]
    exact rel_words hM hw (hs.sub (hR.base_sub hMp hB))
  · obtain ⟨_, _, _, e, hs⟩ := hp
    refine ⟨_, _, h, fun F hM hw hz hal => ?_⟩
    rw [e]
    exact rel_words hM hw (hs.sub (hR.base_sub hMp (.inl ⟨rfl, rfl⟩)))
  · obtain ⟨v, e, hs⟩ := hp
    exact ⟨_, _, h, fun F hM hw hz hal => ⟨v, e, by rw [hM, hw]; exact hs.sub (hR.base_sub hMp (.inl ⟨rfl, rfl⟩))⟩⟩
  · exact ⟨_, _, h, fun F _ _ _ _ => hp⟩
  · exact ⟨_, _, h, fun F _ _ _ _ => hp⟩
  · exact ⟨_, _, h, fun F _ _ _ _ => hp⟩
  · exact ⟨_, _, h, fun F _ _ _ _ => hp⟩
  · exact ⟨_, _, h, fun F _ _ _ _ => hp⟩
  · exact ⟨_, _, h, fun F _ _ _ _ => hp⟩
  · exact ⟨_, _, h, fun F hM hw hz hal => by obtain ⟨v, e, hs⟩ := hp; exact ⟨v, e, hs.mono hz⟩⟩
  · exact ⟨_, _, h, fun F hM hw hz hal => by obtain ⟨v, e, hs⟩ := hp; exact ⟨v, e, hs.mono hz⟩⟩
  · exact ⟨_, _, h, fun F _ _ _ _ => hp⟩
  · exact ⟨_, _, h, fun F _ _ _ _ => hp⟩
  · simp at h
theorem lendAll_sound {α : Type} {M : Mem} {w0 : World} {σ : Loc} {ν : Nat → Value} {S : St D.τ} {w : World} (hR : RR D M w0 σ ν S w) {al : Bool} {ids : List Nat} {Mp : Nat → Prop} (hMp : Foot D M w0 σ ν S ids Mp) : ∀ {ps : List (Part D.τ)} {k : List (Part D.τ) → Rd D.τ α} {r : α} {l : List Ref} {cs : List Value},
    (lendAll P D al ids ps k).run S = some (r, l) → PartsRel D (S.env D M w0 σ ν) ps cs → ∃ qs l', (k qs).run S = some (r, l') ∧ ∀ F : Env, F.M = Mp → F.w0 = w → σ.le F.σ → (al = true → F.σ.zw = w ∧ ∀ g, g < w.heap.size → F.σ.zm g) → PartsRel D F qs cs
  | [], k, r, l, cs, h, hp => ⟨[], l, h, fun _ _ _ _ _ => hp⟩
  | p :: ps, k, r, l, cs, h, ⟨c1, c2, e, h1, h2⟩ => by
    simp only [lendAll] at h
    obtain ⟨q, l1, h, hq⟩ := lend_sound hR hMp h h1
    obtain ⟨qs, l2, h, hqs⟩ := lendAll_sound hR hMp h h2
    exact ⟨q :: qs, l2, h, fun F hM hw hz hal => ⟨c1, c2, e, hq F hM hw hz hal, hqs F hM hw hz hal⟩⟩
theorem lendA_sound {α : Type} {M : Mem} {w0 : World} {σ : Loc} {ν : Nat → Value} {S : St D.τ} {w : World} (hR : RR D M w0 σ ν S w) {al : Bool} {ids : List Nat} {Mp : Nat → Prop} (hMp : Foot D M w0 σ ν S ids Mp) {t : TypeId} {a : AV D.τ} {k : A0 D.τ → Rd D.τ α} {r : α} {l : List Ref} {v : Value}
    (h : (lendA P D al ids t a k).run S = some (r, l)) (ha : AVRel D (S.env D M w0 σ ν) a v) : ∃ x l', (k x).run S = some (r, l') ∧ ∀ F : Env, F.M = Mp → F.w0 = w → σ.le F.σ → (al = true → F.σ.zw = w ∧ ∀ g, g < w.heap.size → F.σ.zm g) → A0Rel D F x v := by
  unfold lendA at h
  split at h
  · obtain ⟨q, l1, h, hq⟩ := lend_sound hR hMp h ha.2
    exact ⟨_, l1, h, fun F hM hw hz hal => ⟨ha.1, hq F hM hw hz hal⟩⟩
  · obtain ⟨cs, e, hp⟩ := ha
    obtain ⟨qs, l1, h, hq⟩ := lendAll_sound hR hMp h hp
    exact ⟨_, l1, h, fun F hM hw hz hal => ⟨cs, e, hq F hM hw hz hal⟩⟩
  · simp at h
theorem lendAs_sound {α : Type} {M : Mem} {w0 : World} {σ : Loc} {ν : Nat → Value} {S : St D.τ} {w : World} (hR : RR D M w0 σ ν S w) {al : Bool} {ids : List Nat} {Mp : Nat → Prop} (hMp : Foot D M w0 σ ν S ids Mp) : ∀ {ts : List TypeId} {as : List (AV D.τ)} {k : List (A0 D.τ) → Rd D.τ α} {r : α} {l : List Ref} {vs : List Value},
    (lendAs P D al ids ts as k).run S = some (r, l) → AVsRel (S.env D M w0 σ ν) as vs → ∃ xs l', (k xs).run S = some (r, l') ∧ ∀ F : Env, F.M = Mp → F.w0 = w → σ.le F.σ → (al = true → F.σ.zw = w ∧ ∀ g, g < w.heap.size → F.σ.zm g) → A0sRel D F xs vs
  | ts, [], k, r, l, vs, h, hp => by
    cases ts <;> exact ⟨[], l, h, fun _ _ _ _ _ => hp⟩
  | [], _ :: _, k, r, l, vs, h, hp => by simp [lendAs] at h
  | t :: ts, a :: as, k, r, l, vs, h, ⟨v, us, e, h1, h2⟩ => by
    simp only [lendAs] at h
    obtain ⟨x, l1, h, hx⟩ := lendA_sound hR hMp h h1
    obtain ⟨xs, l2, h, hxs⟩ := lendAs_sound hR hMp h h2
    exact ⟨x :: xs, l2, h, fun F hM hw hz hal => ⟨v, us, e, hx F hM hw hz hal, hxs F hM hw hz hal⟩⟩
theorem run_len_slice {t e : TypeId} {ty : TypeId} {ao : Option Addr} {n cap : Nat} {w : World} (ht : P.underlying t = some (.slice e)) :
    (Builtin.len_ #[t] ty #[.slice ao n cap]).run P w = .ok (.int .i64 n) w := by
  simp [Builtin.len_, run_underlying ht, goInt]
theorem run_len_string {t : TypeId} {ty : TypeId} {s : ByteArray} {w : World} (ht : P.underlying t = some .string) :
    (Builtin.len_ #[t] ty #[.string s]).run P w = .ok (.int .i64 s.size) w := by
  simp [Builtin.len_, run_underlying ht, goInt]
theorem sound_len (x : Operand) (t ty : TypeId) : Sound P D (oLen P D x t) (fun ρ => valOf (Builtin.len_ #[t] ty #[ρ x])) := by
  intro S r l h hps M w0 a w ⟨σ, ν, hR, hA⟩
  unfold oLen at h
  obtain ⟨av, l0, hav, h⟩ := rdA_run h
  have hx := evalA_rel hA hav
  split at h
  · rename_i p
    obtain ⟨hone, hp⟩ := hx
    split at h
    · rename_i ht
      split at h
      · have hr := ok1_run h
        subst hr
        simp only [PartRel, List.cons.injEq, and_true] at hp
        refine upTo_val (w' := w) ?_ (lands_pure hR hA rel_int)
        rw [hp]
        exact run_len_string ht
      · simp at h
    · rename_i e ht
      have fin : ∀ {ao n cap lt}, a.eval x = .slice ao n cap → r = ⟨.v (.one (.int .i64 lt (n : Nat))), [], []⟩ → UpTo P (Lands M w0 S a r) ((valOf (Builtin.len_ #[t] ty #[a.eval x])).run P w) := by
        rintro ao n cap lt hv rfl
        refine upTo_val (w' := w) ?_ (lands_pure hR hA rel_int)
        rw [hv]
        exact run_len_slice ht
      unfold lenOf1 at h
      split at h
      · simp only [PartRel, List.cons.injEq, and_true] at hp
        exact fin hp (ok1_run h)
      · obtain ⟨v, e1, _, _, _, ao, cap, e2, _⟩ := hp
        simp only [List.cons.injEq, and_true] at e1
        exact fin (e1.trans e2) (ok1_run h)
      · obtain ⟨v, e1, ao, cap, e2, _⟩ := hp
        simp only [List.cons.injEq, and_true] at e1
        exact fin (e1.trans e2) (ok1_run h)
      · have e1 := hp.2.2.2
        simp only [List.cons.injEq, and_true] at e1
        exact fin e1 (ok1_run h)
      · obtain ⟨_, _, _, _, _, _, _, _, _, e1⟩ := hp
        simp only [List.cons.injEq, and_true] at e1
        exact fin e1 (ok1_run h)
      · rename_i b
        obtain ⟨l1, h⟩ := box_run h
        have hb := hR.boxes b
        split at h
        · rename_i e' kd il hbx
          rw [hbx] at hb
          obtain ⟨n, xs, hown, hxs, _⟩ := hb
          simp only [PartRel] at hxs
          subst hxs
          have e1 := hp.2.2
          simp only [List.cons.injEq, and_true] at e1
          obtain ⟨ao, cap, e2, _⟩ := sl_own (M := fun _ => False) hown (fun _ _ h => h)
          exact fin (e1.trans e2) (ok1_run h)
        · simp at h
      · simp at h
    · simp at h
  · simp at h
theorem words_c {w : World} {k : IntKind} {l : List Int} {cs : List Value} (h : PartRel D (cenv w) (.words k l) cs) : ∃ v, cs = [v] ∧ SlRel (fun _ => False) w k l v := by
  obtain ⟨v, e, M, W, hB, hs⟩ := h
  rcases hB with ⟨rfl, rfl⟩ | ⟨rfl, rfl⟩
  · exact ⟨v, e, hs⟩
  · exact ⟨v, e, hs.sub fun b _ _ => ⟨fun h => h, rfl⟩⟩
theorem ownsL_base {w : World} {base base' : Nat} {e : TypeId} {size : Nat} {v : Value} {n : Nat} {xs : List Value} (h : w.ownsL base e size v n xs) (hb : base' ≤ base) : w.ownsL base' e size v n xs := by
  refine ⟨h.1, ?_⟩
  rcases h.2 with hn | ⟨g, cap, cur, hv, h1, rest⟩
  · exact .inl hn
  · exact .inr ⟨g, cap, cur, hv, by omega, rest⟩
theorem ownsL_one {w : World} {base : Nat} {e : TypeId} {size : Nat} {v : Value} {n : Nat} {xs : List Value} (h : w.ownsL base e size v n xs) : v.oneCell' = true := by
  rcases h.2 with ⟨rfl, _⟩ | ⟨g, cap, cur, rfl, _⟩ <;> rfl
theorem append_run {t e ty : TypeId} {k : IntKind} {w : World} {v y : Value} {n : Nat} {xs : List Value} {l : List Int} (ht : P.underlying t = some (.slice e)) (hs : szOf P e = some 1) (hz : zeroInt P e = some k)
    (hown : w.ownsL 0 e 1 v n xs) (hy : SlRel (fun _ => False) w k l y) (h63 : n + l.length ≤ 9223372036854775807) (hb : (n + l.length) * bytesOfT P e ≤ 140737488355328) :
    ∃ v' w', (Builtin.append_ #[t, t] ty #[v, y]).run P w = .ok v' w' ∧ w'.ownsL 0 e 1 v' (n + l.length) (xs ++ l.map (Value.int k)) ∧ w.grownBy w' v.ownBlock ∧
      ∀ g, v'.ownBlock = some g → w.heap.size ≤ g ∨ v.ownBlock = some g := by
  obtain ⟨i, hi, hiz⟩ := zeroInt_spec hz
  obtain ⟨i', d, hi', hsz, hd⟩ := szOf_spec hs
  rw [hi] at hi'
  simp only [Option.some.injEq] at hi'
  subst hi'
  have hby : bytesOfT P e = i.bytes := by simp [bytesOfT, hi]
  rw [hby] at hb
  have hm : n + l.length ≤ maxLen := by unfold maxLen; omega
  obtain ⟨ao, cap', rfl, g1, g2, g3, g4⟩ := hy
  cases ao with
  | none =>
    have hc := g3 rfl
    subst hc
    have hl : l = [] := List.eq_nil_of_length_eq_zero (by omega)
    subst hl
    have hr := run_append_ownedL_none (P := P) w 0 t ty e i 1 ht hi v n xs hown
    exact ⟨v, w, hr, by simpa using hown, World.grownBy.refl _ _, fun g hg => .inr hg⟩
  | some a =>
    have hnews : ∀ j u, (l.map (Value.int k))[j]? = some u → w.cell? (a.add j) = some u := by
      intro j u hu
      have hj : j < l.length := by have := (List.getElem?_eq_some_iff.1 hu).1; simpa using this
      obtain ⟨b, off, e1, _, e3⟩ := g4 j hj
      simp only [Option.some.injEq] at e1
      subst e1
      rw [getD_ints hj] at hu
      simp only [Option.some.injEq] at hu
      subst hu
      rw [Addr.add_lit]
      exact e3
    have hone : ∀ u ∈ l.map (Value.int k), u.oneCell' = true := by
      intro u hu
      obtain ⟨_, _, rfl⟩ := List.mem_map.1 hu
      rfl
    have hln : (l.map (Value.int k)).length = l.length * 1 := by simp
    rcases hown.2 with ⟨rfl, hn0⟩ | ⟨g, cap, cur, rfl, _, hcur, hnc, hcm, hcs, htk⟩
    · have hx : xs = [] := List.eq_nil_of_length_eq_zero (by rw [hown.1, hn0])
      subst hn0
      subst hx
      obtain ⟨v', w', hr, ho, hg, _⟩ := run_append_ownL (P := P) w w.heap.size t ty e i _ 1 i.bytes ht hi hiz hsz rfl rfl (by omega) _ 0 [] (World.ownsL_nil w w.heap.size e 1) a l.length cap' _ hln hnews hone hm hb (Nat.le_refl _)
      exact ⟨v', w', hr, ownsL_base ho (Nat.zero_le _), hg, fun g hgo => .inl (ho.lt g hgo).1⟩
    · obtain ⟨v', w', hr, ho, hg, _⟩ := run_append_ownL (P := P) w 0 t ty e i _ 1 i.bytes ht hi hiz hsz rfl rfl (by omega) _ n xs hown a l.length cap' _ hln hnews hone hm hb (Nat.zero_le _)
      refine ⟨v', w', hr, ho, hg, fun g' hgo => ?_⟩
      by_cases hroom : n + l.length ≤ cap
      · obtain ⟨w2, hr2, _⟩ := run_append_fitsL (P := P) w 0 t ty e i 1 ht hi hsz g n cap xs hown a l.length cap' _ hln hnews hone hroom
        rw [hr] at hr2
        simp only [Result.ok.injEq] at hr2
        rw [hr2.1] at hgo
        exact .inr (by simpa [Value.ownBlock] using hgo)
      · have holds : ∀ j u, xs[j]? = some u → w.cell? ((⟨g, 0, none⟩ : Addr).add j) = some u := hown.cells (g := g) rfl
        have hr2 := run_append_grow (P := P) w t ty e i _ ht hi hiz ⟨g, 0, none⟩ n cap xs (by rw [hsz]; exact hown.1) holds a l.length cap' _ (by rw [hsz]; exact hln) hnews (by omega) (by omega) (growslice_fits (by omega) hb)
        rw [hr] at hr2
        simp only [Result.ok.injEq] at hr2
        rw [hr2.1] at hgo
        simp [Value.ownBlock] at hgo
        exact .inl (by omega)
theorem sound_append (nid : Nat) (x y : Operand) (t u ty : TypeId) : Sound P D (oAppend P D nid x y t u) (fun ρ => valOf (Builtin.append_ #[t, u] ty #[ρ x, ρ y])) := by
  intro S r l h hps M w0 a w ⟨σ, ν, hR, hA⟩
  unfold oAppend at h
  generalize hb : Nat.beq t u = bb at h
  cases bb <;> simp only [cond_true, cond_false, run_fail] at h
  have htu := Nat.eq_of_beq_eq_true hb
  subst htu
  split at h
  · rename_i e ht
    split at h
    · rename_i k hz
      split at h
      · rename_i hs
        obtain ⟨av, l0, hav, h⟩ := rdA_run h
        have hx := evalA_rel hA hav
        split at h
        · rename_i p
          obtain ⟨bv, l1, hbv, h⟩ := rdA_run h
          have hy := evalA_rel hA hbv
          split at h
          · rename_i q
            obtain ⟨q', l2, h, hq'⟩ := lend_sound hR foot_nil h hy.2
            split at h
            · rename_i kl il
              split at h
              · rename_i hk
                subst hk
                obtain ⟨yv, e1, hsl⟩ := words_c (hq' (cenv w) rfl rfl (fun g hg => hR.zk g hg) (fun h => by cases h))
                simp only [List.cons.injEq, and_true] at e1
                rw [← e1] at hsl
                obtain ⟨l3, h⟩ := box_run h
                split at h
                · rename_i hun
                  split at h
                  · simp only [run_ret] at h
                    obtain ⟨rfl, _⟩ := h
                    have hxv : a.eval x = .slice none 0 0 := by have := hx.2; simpa [PartRel] using this
                    have b1 : il.length ≤ 9223372036854775807 := hps _ (by simp)
                    have b2 : il.length * bytesOfT P e ≤ 140737488355328 := hps _ (by simp)
                    obtain ⟨v', w', hr, ho, hg, hgo⟩ := append_run (P := P) (ty := ty) (w := w) (v := .slice none 0 0) (n := 0) (xs := []) ht hs hz (World.ownsL_nil _ _ _ _) hsl (by omega) (by simpa using b2)
                    simp only [List.nil_append, Nat.zero_add] at ho
                    refine upTo_val (v := v') (w' := w') (by rw [hxv]; exact hr) (lands_dyn (old := []) (row := none) hR hA hun ho rfl (ownsL_one ho) hg (by simp) (fun g h' => .inl ?_))
                    rcases hgo g h' with h'' | h''
                    · exact h''
                    · simp [Value.ownBlock] at h''
                  · rename_i b _ _ _
                    obtain ⟨l4, h⟩ := box_run h
                    have hbb := hR.boxes b
                    split at h
                    · rename_i e' k' xl hbx
                      split at h
                      · rename_i hk'
                        subst hk'
                        generalize hbe : Nat.beq e e' = be at h
                        cases be <;> simp only [cond_true, cond_false, run_fail] at h
                        have hee := Nat.eq_of_beq_eq_true hbe
                        subst hee
                        simp only [run_ret] at h
                        obtain ⟨rfl, _⟩ := h
                        have b1 : xl.length + il.length ≤ 9223372036854775807 := hps _ (by simp)
                        have b2 : (xl.length + il.length) * bytesOfT P e ≤ 140737488355328 := hps _ (by simp)
                        rw [hbx] at hbb
                        obtain ⟨n, xs, hown, hxs, _⟩ := hbb
                        simp only [PartRel] at hxs
                        subst hxs
                        have hown : w.ownsL 0 _ 1 _ n (xl.map (Value.int _)) := hown
                        have hn : xl.length = n := by have := hown.1; simpa using this
                        subst hn
                        have hxv : a.eval x = ν b := by
                          have h9 : [a.eval x] = [ν b] := hx.2.2.2
                          simpa using h9
                        obtain ⟨v', w', hr, ho, hg, hgo⟩ := append_run (P := P) (ty := ty) (w := w) (v := ν b) ht hs hz hown hsl b1 b2
                        have hblk : ∀ g, (ν b).ownBlock = some g → ∃ b' ∈ [b], Fp D (S.env D M w0 σ ν) b' (S.box b') g := fun g h' => ⟨b, by simp, by rw [hbx]; exact h'⟩
                        refine upTo_val (v := v') (w' := w') (by rw [hxv]; exact hr) (lands_dyn (old := [b]) (row := (ν b).ownBlock) hR hA hun ho (by simp [PartRel]) (ownsL_one ho) hg hblk (fun g h' => ?_))
                        rcases hgo g h' with h'' | h''
                        · exact .inl h''
                        · exact .inr (hblk g h'')
                      · simp at h
                    · simp at h
                  · simp at h
                · simp at h
              · simp at h
            · simp at h
          · simp at h
        · simp at h
      · simp at h
    · simp at h
  · simp at h
def renv (w w' : World) (ν : Nat → Value) : Env := ⟨fun _ => False, ⟨fun _ => 0, w, fun _ => False, fun _ _ => False⟩, ν, w, fun _ => False, some w'⟩
def RRes (D : Dom) (w w' : World) (r : AV D.τ) (v : Value) : Prop :=
  ∃ ν, (∀ i j g, i ≠ j → (ν i).ownBlock = some g → (ν j).ownBlock = some g → False) ∧ AVRel D (renv w w' ν) r v
def CallTo (P : Program) (D : Dom) (f : FuncId) (vs : List Value) (w : World) (r : AV D.τ) : Prop :=
  ∃ n, (callFunc f vs.toArray).run P w = .ok n w ∧ match n with
    | .value v => RRes D w w r v
    | .enter g args => Calls P g args w fun e w' => ∃ v, e = .returned v ∧ RRes D w w' r v ∧ Below w.heap.size w w'
    | _ => False
def FnOK (P : Program) (D : Dom) (f : FuncId) (F : FnD D) : Prop :=
  ∀ xs r ps, F xs = some (r, ps) → (∀ p ∈ ps, p) → ∀ w vs, GlobAt D w → A0sRel D (cenv w) xs vs → CallTo P D f vs w r
def bst {τ : Type} (n : Nat) (bs : List (BoxSt τ)) : St τ := ⟨fun _ => none, fun i => match bs[i]? with | some s => s | none => .un, 0, n⟩
def opMem (D : Dom) (w : World) (σ : Loc) (ν : Nat → Value) (bs : List (BoxSt D.τ)) : Mem :=
  ⟨fun g => ∃ b, Fp D ⟨fun _ => True, σ, ν, w, fun _ => False, none⟩ b ((bst bs.length bs).box b) g, fun i => (σ.f i, ν i), σ.zw, σ.zm⟩
def OpOK (P : Program) (D : Dom) (f : FuncId) (F : List (BoxSt D.τ) → List (A0 D.τ) → Option (AV D.τ × List (BoxSt D.τ) × List Prop)) : Prop :=
  ∀ bs xs r bs' ps, F bs xs = some (r, bs', ps) → (∀ p ∈ ps, p) → ∀ w σ ν vs, RR D (opMem D w σ ν bs) w σ ν (bst bs.length bs) w → A0sRel D ((bst bs.length bs).env D (opMem D w σ ν bs) w σ ν) xs vs →
    ∃ g args, (callFunc f vs.toArray).run P w = .ok (.enter g args) w ∧ Calls P g args w fun en w' => ∃ v, en = .returned v ∧ ∃ σ' ν', RR D (opMem D w σ ν bs) w σ' ν' (bst bs.length bs') w' ∧
      AVRel D ((bst bs.length bs').env D (opMem D w σ ν bs) w σ' ν') r v
def withNew (F : List (BoxSt D.τ) → List (A0 D.τ) → Option (AV D.τ × List (BoxSt D.τ) × List Prop)) (bs : List (BoxSt D.τ)) (xs : List (A0 D.τ)) : Option (AV D.τ × List (BoxSt D.τ) × List Prop) :=
  match F bs xs with
  | some (r, ns, ps) => some (r, bs ++ ns, ps)
  | none => none
def ConOK (P : Program) (D : Dom) (f : FuncId) : Con D → Prop
  | .fn F => FnOK P D f F
  | .fz F => FnOK P D f F
  | .op _ F => OpOK P D f F
  | .rd _ F => OpOK P D f (withNew F)
def GamOK (P : Program) (D : Dom) (Γ : Gam D) : Prop := ∀ x ∈ Γ, ConOK P D x.1 x.2
theorem GamOK.get {Γ : Gam D} (h : GamOK P D Γ) {f : FuncId} {F : Con D} (hf : Gam.get D Γ f = some F) : ConOK P D f F := by
  induction Γ with
  | nil => simp [Gam.get] at hf
  | cons x Γ ih =>
    obtain ⟨g, G⟩ := x
    simp only [Gam.get] at hf
    cases hb : Nat.beq g f <;> simp only [hb, cond_true, cond_false] at hf
    · exact ih (fun y hy => h y (List.mem_cons_of_mem _ hy)) hf
    · simp only [Option.some.injEq] at hf
      subst hf
      have := Nat.eq_of_beq_eq_true hb
      subst this
      exact h (g, G) (by simp)
def Gets (E : Env) (nid : Nat) (ν : Nat → Value) (c n : Nat) : Prop := ∀ i, c ≤ i → i < c + n → E.al (nid + i) ∧ E.ν (nid + i) = ν i
def Owns (w w' : World) (ν : Nat → Value) (c : Nat) (ds : List Fr) : Prop := ∀ i e k l, ds[i]? = some (e, k, l) → w'.ownsL w.heap.size e 1 (ν (c + i)) l.length (l.map (Value.int k))
theorem Owns.append {w w' : World} {ν : Nat → Value} {c : Nat} {ds es : List Fr} (h : Owns w w' ν c ds) (k : Owns w w' ν (c + ds.length) es) : Owns w w' ν c (ds ++ es) := by
  intro i e kd l hi
  by_cases hlt : i < ds.length
  · rw [List.getElem?_append_left hlt] at hi
    exact h i e kd l hi
  · rw [List.getElem?_append_right (by omega)] at hi
    have := k _ e kd l hi
    rwa [show c + ds.length + (i - ds.length) = c + i from by omega] at this
theorem absP_sound {w w' : World} {ν : Nat → Value} {nid c : Nat} {p q : Part D.τ} {ds : List Fr} {cs : List Value} (h : absP D nid c p = some (q, ds)) (hp : PartRel D (renv w w' ν) p cs) :
    Owns w w' ν c ds ∧ ∀ E, Gets E nid ν c ds.length → PartRel D E q cs := by
  unfold absP at h
  split at h
  · rename_i i e k l
    cases hb : Nat.beq i c <;> simp only [hb, cond_true, cond_false] at h
    · cases h
    · have := Nat.eq_of_beq_eq_true hb
      subst this
      simp only [Option.some.injEq, Prod.mk.injEq] at h
      obtain ⟨rfl, rfl⟩ := h
      obtain ⟨rfl, w2, e2, ho⟩ := hp
      have : w' = w2 := by simpa [renv] using e2
      subst this
      refine ⟨fun j e' k' l' hj => ?_, fun E hE => ?_⟩
      · match j, hj with
        | 0, hj =>
          simp only [List.getElem?_cons_zero, Option.some.injEq, Prod.mk.injEq] at hj
          obtain ⟨rfl, rfl, rfl⟩ := hj
          exact ho
      · obtain ⟨h1, h2⟩ := hE i (Nat.le_refl _) (by simp)
        refine ⟨h1, ?_, ?_⟩
        · rw [h2]; exact ownsL_one ho
        · rw [h2]; rfl
  all_goals first
    | (simp only [Option.some.injEq, Prod.mk.injEq] at h; obtain ⟨rfl, rfl⟩ := h; exact ⟨fun i e k l hi => by simp at hi, fun E _ => hp⟩)
    | cases h
theorem absPs_sound {w w' : World} {ν : Nat → Value} {nid : Nat} : ∀ {ps qs : List (Part D.τ)} {c : Nat} {ds : List Fr} {cs : List Value}, absPs D nid c ps = some (qs, ds) → PartsRel D (renv w w' ν) ps cs →
    Owns w w' ν c ds ∧ ∀ E, Gets E nid ν c ds.length → PartsRel D E qs cs
  | [], qs, c, ds, cs, h, hp => by
    simp [absPs] at h
    obtain ⟨rfl, rfl⟩ := h
    exact ⟨fun i e k l hi => by simp at hi, fun E _ => hp⟩
  | p :: ps, qs, c, ds, cs, h, ⟨c1, c2, e, h1, h2⟩ => by
    simp only [absPs] at h
    cases hq : absP D nid c p with
    | none => simp [hq] at h
    | some x =>
      obtain ⟨q, us⟩ := x
      simp only [hq] at h
      cases hqs : absPs D nid (c + us.length) ps with
      | none => simp [hqs] at h
      | some y =>
        obtain ⟨qs', vs⟩ := y
        simp only [hqs, Option.some.injEq, Prod.mk.injEq] at h
        obtain ⟨rfl, rfl⟩ := h
        obtain ⟨o1, g1⟩ := absP_sound hq h1
        obtain ⟨o2, g2⟩ := absPs_sound hqs h2
        refine ⟨o1.append o2, fun E hE => ⟨c1, c2, e, g1 E (fun i hi1 hi2 => hE i hi1 (by simp; omega)), g2 E (fun i hi1 hi2 => hE i (by omega) (by simp at hi2 ⊢; omega))⟩⟩
theorem abs0_sound {w w' : World} {ν : Nat → Value} {nid c : Nat} {a b : A0 D.τ} {ds : List Fr} {v : Value} (h : abs0 D nid c a = some (b, ds)) (hp : A0Rel D (renv w w' ν) a v) :
    Owns w w' ν c ds ∧ ∀ E, Gets E nid ν c ds.length → A0Rel D E b v := by
  unfold abs0 at h
  split at h
  · rename_i p
    cases hq : absP D nid c p with
    | none => simp [hq] at h
    | some x =>
      obtain ⟨q, us⟩ := x
      simp only [hq, Option.some.injEq, Prod.mk.injEq] at h
      obtain ⟨rfl, rfl⟩ := h
      obtain ⟨o1, g1⟩ := absP_sound hq hp.2
      exact ⟨o1, fun E hE => ⟨hp.1, g1 E hE⟩⟩
  · rename_i ps
    cases hq : absPs D nid c ps with
    | none => simp [hq] at h
    | some x =>
      obtain ⟨q, us⟩ := x
      simp only [hq, Option.some.injEq, Prod.mk.injEq] at h
      obtain ⟨rfl, rfl⟩ := h
      obtain ⟨cs, e, hps⟩ := hp
      obtain ⟨o1, g1⟩ := absPs_sound hq hps
      exact ⟨o1, fun E hE => ⟨cs, e, g1 E hE⟩⟩
theorem abs0s_sound {w w' : World} {ν : Nat → Value} {nid : Nat} : ∀ {as bs : List (A0 D.τ)} {c : Nat} {ds : List Fr} {vs : List Value}, abs0s D nid c as = some (bs, ds) → A0sRel D (renv w w' ν) as vs →
    Owns w w' ν c ds ∧ ∀ E, Gets E nid ν c ds.length → A0sRel D E bs vs
  | [], qs, c, ds, cs, h, hp => by
    simp [abs0s] at h
    obtain ⟨rfl, rfl⟩ := h
    exact ⟨fun i e k l hi => by simp at hi, fun E _ => hp⟩
  | p :: ps, qs, c, ds, cs, h, ⟨c1, c2, e, h1, h2⟩ => by
    simp only [abs0s] at h
    cases hq : abs0 D nid c p with
    | none => simp [hq] at h
    | some x =>
      obtain ⟨q, us⟩ := x
      simp only [hq] at h
      cases hqs : abs0s D nid (c + us.length) ps with
      | none => simp [hqs] at h
      | some y =>
        obtain ⟨qs', vs⟩ := y
        simp only [hqs, Option.some.injEq, Prod.mk.injEq] at h
        obtain ⟨rfl, rfl⟩ := h
        obtain ⟨o1, g1⟩ := abs0_sound hq h1
        obtain ⟨o2, g2⟩ := abs0s_sound hqs h2
        refine ⟨o1.append o2, fun E hE => ⟨c1, c2, e, g1 E (fun i hi1 hi2 => hE i hi1 (by simp; omega)), g2 E (fun i hi1 hi2 => hE i (by omega) (by simp at hi2 ⊢; omega))⟩⟩
theorem absA_sound {w w' : World} {ν : Nat → Value} {nid : Nat} {a b : AV D.τ} {ds : List Fr} {v : Value} (h : absA D nid a = some (b, ds)) (hp : AVRel D (renv w w' ν) a v) :
    Owns w w' ν 0 ds ∧ ∀ E, Gets E nid ν 0 ds.length → AVRel D E b v := by
  unfold absA at h
  split at h
  · rename_i p
    cases hq : abs0 D nid 0 p with
    | none => simp [hq] at h
    | some x =>
      obtain ⟨q, us⟩ := x
      simp only [hq, Option.some.injEq, Prod.mk.injEq] at h
      obtain ⟨rfl, rfl⟩ := h
      exact abs0_sound hq hp
  · rename_i ps
    cases hq : abs0s D nid 0 ps with
    | none => simp [hq] at h
    | some x =>
      obtain ⟨q, us⟩ := x
      simp only [hq, Option.some.injEq, Prod.mk.injEq] at h
      obtain ⟨rfl, rfl⟩ := h
      obtain ⟨vs, e, hps⟩ := hp
      obtain ⟨o1, g1⟩ := abs0s_sound hq hps
      exact ⟨o1, fun E hE => ⟨vs, e, g1 E hE⟩⟩
theorem rdUn_run {α : Type} : ∀ {n nid : Nat} {k : Rd D.τ α} {S : St D.τ} {r : α} {l : List Ref}, (rdUn nid n k).run S = some (r, l) → (∃ l', k.run S = some (r, l')) ∧ ∀ i, i < n → S.box (nid + i) = .un
  | 0, nid, k, S, r, l, h => ⟨⟨l, h⟩, fun i hi => by omega⟩
  | n + 1, nid, k, S, r, l, h => by
    simp only [rdUn] at h
    obtain ⟨l1, h⟩ := box_run h
    split at h
    · rename_i hun
      obtain ⟨h1, h2⟩ := rdUn_run h
      refine ⟨h1, fun i hi => ?_⟩
      cases i with
      | zero => exact hun
      | succ i => have := h2 i (by omega); rwa [show nid + 1 + i = nid + (i + 1) from by omega] at this
    · simp at h
theorem bx_mk : ∀ (ds : List Fr) (S : St D.τ) (nid c : Nat), (S.bx (mkUs nid ds)).box c = if nid ≤ c then (match ds[c - nid]? with | some (e, k, l) => .dyn e (.ints k l) | none => S.box c) else S.box c
  | [], S, nid, c => by simp [mkUs, bx_nil]
  | (e, k, l) :: ds, S, nid, c => by
    show ((S.upd (.box nid (.dyn e (.ints k l)))).bx (mkUs (nid + 1) ds)).box c = _
    rw [bx_mk ds]
    by_cases h1 : nid + 1 ≤ c
    · have h2 : nid ≤ c := by omega
      rw [if_pos h1, if_pos h2, show c - nid = (c - (nid + 1)) + 1 from by omega, List.getElem?_cons_succ]
      cases ds[c - (nid + 1)]? with
      | none => exact upd_box_other S _ (by omega)
      | some x => rfl
    · rw [if_neg h1]
      by_cases h2 : nid ≤ c
      · have : c = nid := by omega
        subst this
        rw [if_pos h2, upd_box_same]
        simp
      · rw [if_neg h2]
        exact upd_box_other S _ (by omega)
theorem lands_call {M : Mem} {w0 : World} {σ : Loc} {ν : Nat → Value} {S : St D.τ} {a : Act} {w w' : World} (hR : RR D M w0 σ ν S w) (hA : RA D M w0 σ ν S a) {nid : Nat} {r x : AV D.τ} {ds : List Fr} {v : Value} {qs : List Prop}
    (hun : ∀ i, i < ds.length → S.box (nid + i) = .un) (hr : absA D nid r = some (x, ds)) (hv : RRes D w w' r v) (hb : Below w.heap.size w w') :
    Lands M w0 S a ⟨x, mkUs nid ds, qs⟩ v w' := by
  obtain ⟨νr, hdis, hrel⟩ := hv
  obtain ⟨how, hget⟩ := absA_sound hr hrel
  unfold Lands
  simp only
  generalize hS' : S.bx (mkUs nid ds) = S'
  have hbox : ∀ c, S'.box c = if nid ≤ c then (match ds[c - nid]? with | some (e, k, l) => .dyn e (.ints k l) | none => S.box c) else S.box c := fun c => by rw [← hS']; exact bx_mk ds S nid c
  have hsl := bx_slot (mkUs nid ds) S
  rw [hS'] at hsl
  let ν' : Nat → Value := fun c => if nid ≤ c ∧ c < nid + ds.length then νr (c - nid) else ν c
  have hin : ∀ c, nid ≤ c → c < nid + ds.length → ∃ e k l, ds[c - nid]? = some (e, k, l) ∧ S'.box c = .dyn e (.ints k l) ∧ ν' c = νr (c - nid) := by
    intro c h1 h2
    have hlt : c - nid < ds.length := by omega
    rcases hd : ds[c - nid] with ⟨e, k, l⟩
    refine ⟨e, k, l, by rw [List.getElem?_eq_getElem hlt, hd], ?_, if_pos ⟨h1, h2⟩⟩
    rw [hbox, if_pos h1, List.getElem?_eq_getElem hlt, hd]
  have hout : ∀ c, ¬ (nid ≤ c ∧ c < nid + ds.length) → S'.box c = S.box c ∧ ν' c = ν c := by
    intro c hc
    refine ⟨?_, if_neg hc⟩
    rw [hbox]
    split
    · rename_i h1
      rw [List.getElem?_eq_none (by omega)]
    · rfl
  have hne : ∀ c, (S.box c).al → ¬ (nid ≤ c ∧ c < nid + ds.length) := fun c h hc => by
    have := hun (c - nid) (by omega)
    rw [show nid + (c - nid) = c from by omega] at this
    rw [this] at h
    exact h
  have hle : (S.env D M w0 σ ν).le (S'.env D M w0 σ ν') := by
    refine ⟨fun c h => ?_, fun _ _ => rfl, fun c h => (hout c (hne c h)).2, rfl, rfl, ⟨rfl, rfl⟩, Loc.le_refl σ⟩
    show (S'.box c).al
    rw [(hout c (hne c h)).1]; exact h
  have hlow : ∀ c g, nid ≤ c → c < nid + ds.length → Fp D (S'.env D M w0 σ ν') c (S'.box c) g → w.heap.size ≤ g ∧ (νr (c - nid)).ownBlock = some g := by
    intro c g h1 h2 h
    obtain ⟨e, k, l, hd, hb', hν⟩ := hin c h1 h2
    rw [hb'] at h
    have h3 : (ν' c).ownBlock = some g := h
    rw [hν] at h3
    have := how _ e k l hd
    rw [Nat.zero_add] at this
    exact ⟨(this.lt g h3).1, h3⟩
  have hbo : ∀ c g, ¬ (nid ≤ c ∧ c < nid + ds.length) → Fp D (S'.env D M w0 σ ν') c (S'.box c) g → Fp D (S.env D M w0 σ ν) c (S.box c) g := by
    intro c g hc h
    rw [(hout c hc).1] at h
    cases hs : S.box c <;> rw [hs] at h <;> simp only [Fp, blk] at h ⊢ <;> try exact h
    have h3 : (ν' c).ownBlock = some g := h
    rw [(hout c hc).2] at h3
    exact h3
  have hk : Kept M w0 w' := hR.kept.trans ⟨hb.os, hb.tape, hb.output, hb.size, fun k hk _ => hb.block k hk⟩
  refine ⟨σ, ν', hR.step hle (fun c => nid ≤ c ∧ c < nid + ds.length) ?_ ?_ ?_ ?_ hk (by rw [← hS']; exact bx_np _ S) (fun g hz => ?_) ?_ (fun b g _ h _ => hR.zd b g h) (fun g h => .inl h), hA.mono hle hsl.1 hsl.2, ?_⟩
  · rintro c ⟨h1, h2⟩
    obtain ⟨e, k, l, hd, hb', hν⟩ := hin c h1 h2
    rw [hb']
    have ho := how _ e k l hd
    rw [Nat.zero_add] at ho
    refine ⟨l.length, _, ?_, rfl, ?_⟩
    · show w'.ownsL 0 e 1 (ν' c) l.length _
      rw [hν]; exact ownsL_base ho (Nat.zero_le _)
    · show (ν' c).oneCell' = true
      rw [hν]; exact ownsL_one ho
  · intro c hc
    exact .inl ⟨(hout c hc).1, fun g hg => hb.block g (blk_lt hR hg)⟩
  · rintro c c' g ⟨h1, h2⟩ hne' hg hg'
    obtain ⟨q1, q2⟩ := hlow c g h1 h2 hg
    by_cases hc' : nid ≤ c' ∧ c' < nid + ds.length
    · obtain ⟨q3, q4⟩ := hlow c' g hc'.1 hc'.2 hg'
      exact hdis (c - nid) (c' - nid) g (by omega) q2 q4
    · have := blk_lt hR (hbo c' g hc' hg')
      omega
  · rintro c g ⟨h1, h2⟩ hg
    exact .inl (by have := (hlow c g h1 h2 hg).1; have := hR.kept.size; omega)
  · obtain ⟨h1, h2⟩ := hR.zk g hz
    exact ⟨Nat.lt_of_lt_of_le h1 hb.size, by rw [← h2]; exact hb.block g h1⟩
  · rintro c g ⟨h1, h2⟩ hg hz
    have := (hlow c g h1 h2 hg).1
    have := (hR.zk g hz).1
    omega
  · refine hget _ (fun i _ hi => ?_)
    obtain ⟨e, k, l, hd, hb', hν⟩ := hin (nid + i) (by omega) (by omega)
    refine ⟨?_, ?_⟩
    · show (S'.box (nid + i)).al
      rw [hb']; trivial
    · show ν' (nid + i) = νr i
      rw [hν, Nat.add_sub_cancel_left]
theorem run_callOp (ρ : Operand → Value) (c : Call) (f : FuncId) (ty : TypeId) (w : World) (hc : c.callee = .value (.func f)) (hρ : ρ (.func f) = .func (.func f) #[] #[]) :
    (do let d ← resolve ρ c ty; invoke d.target d.args : Sem Next).run P w = (callFunc f (c.args.map ρ)).run P w := by
  simp [resolve, hc, hρ, Deferred.ofValue, invoke]
theorem run_builtinOp (ρ : Operand → Value) (c : Call) (b : Builtin) (ty : TypeId) (w : World) (hc : c.callee = .builtin b) :
    (do let d ← resolve ρ c ty; invoke d.target d.args : Sem Next).run P w = (builtin b c.argTypes ty (c.args.map fun | .const _ => true | _ => false) (c.args.map ρ)).run P w := by
  simp [resolve, hc, invoke]
  rfl
theorem list2 {α : Type} {a : Array α} {x y : α} (h : a.toList = [x, y]) : a = #[x, y] := by rw [← Array.toList_inj]; exact h
theorem list1 {α : Type} {a : Array α} {x : α} (h : a.toList = [x]) : a = #[x] := by rw [← Array.toList_inj]; exact h
end
end Go.Abs
namespace Go.Abs
open Go.RowKit
section
variable {P : Program} {D : Dom}
theorem upd_twice (S : St D.τ) (b : Nat) (s t : BoxSt D.τ) : (S.upd (.box b s)).upd (.box b t) = S.upd (.box b t) := by
  unfold St.upd
  simp only [St.mk.injEq, true_and, and_true]
  funext i
  cases Nat.beq i b <;> rfl
theorem freeze_le {M : Mem} {w0 w : World} {σ : Loc} {ν : Nat → Value} {S : St D.τ} (hR : RR D M w0 σ ν S w) (b : Nat) :
    (S.env D M w0 σ ν).le ((S.upd (.box b .dead)).env D M w0 ⟨σ.f, w, fun g => σ.zm g ∨ Fp D (S.env D M w0 σ ν) b (S.box b) g, σ.φ⟩ ν) := by
  refine ⟨fun c h => ?_, fun _ _ => rfl, fun _ _ => rfl, rfl, rfl, ⟨rfl, rfl⟩, fun g hg => ⟨.inl hg, (hR.zk g hg).2⟩⟩
  show ((S.upd (.box b .dead)).box c).al
  by_cases hc : c = b
  · subst hc; rw [upd_box_same]; trivial
  · rw [upd_box_other S _ hc]; exact h
theorem RR.freeze {M : Mem} {w0 w : World} {σ : Loc} {ν : Nat → Value} {S : St D.τ} (hR : RR D M w0 σ ν S w) (b : Nat) :
    RR D M w0 ⟨σ.f, w, fun g => σ.zm g ∨ Fp D (S.env D M w0 σ ν) b (S.box b) g, σ.φ⟩ ν (S.upd (.box b .dead)) w := by
  refine hR.step (freeze_le hR b) (fun _ => False) (fun _ h => h.elim) (fun c _ => ?_) (fun _ _ _ h => h.elim) (fun _ _ h => h.elim) hR.kept rfl (fun g hg => ?_) (fun _ _ h => h.elim) (fun c g _ hc he hz => ?_) (fun g hg => ?_)
  · by_cases hc : c = b
    · subst hc; exact .inr (upd_box_same _ _ _)
    · exact .inl ⟨upd_box_other S _ hc, fun _ _ => rfl⟩
  · rcases hg with hg | hg
    · exact ⟨(hR.zk g hg).1, rfl⟩
    · exact ⟨blk_lt hR hg, rfl⟩
  · rcases hz with hz | hz
    · exact hR.zd c g hc hz
    · by_cases hcb : c = b
      · subst hcb
        rw [upd_box_same] at he
        rw [← he] at hc
        cases hc
      · exact hR.disj c b g hcb hc hz
  · rcases hg with hg | hg
    · exact .inl hg
    · exact .inr (hR.lo b g hg)
theorem lands_fz {M : Mem} {w0 : World} {S : St D.τ} {a : Act} {w' : World} {nid : Nat} {e : TypeId} {k : IntKind} {l : List Int} {v : Value} {qs : List Prop}
    (h : Lands M w0 S a ⟨.v (.one (.own nid)), [(nid, .dyn e (.ints k l))], qs⟩ v w') : Lands M w0 S a ⟨.v (.one (.pw k l)), [(nid, .dead)], qs⟩ v w' := by
  obtain ⟨σ, ν, hR, hA, hv⟩ := h
  simp only [bx_one] at hR hA hv
  have hb := hR.boxes nid
  rw [upd_box_same] at hb
  obtain ⟨n, xs, hown, hp, h1⟩ := hb
  simp only [PartRel] at hp
  subst hp
  refine ⟨⟨σ.f, w', fun g => σ.zm g ∨ Fp D ((S.upd (.box nid (.dyn e (.ints k l)))).env D M w0 σ ν) nid ((S.upd (.box nid (.dyn e (.ints k l)))).box nid) g, σ.φ⟩, ν, ?_, ?_, ?_⟩
  · rw [bx_one, ← upd_twice S nid (.dyn e (.ints k l)) .dead]
    exact hR.freeze nid
  · rw [bx_one, ← upd_twice S nid (.dyn e (.ints k l)) .dead]
    exact hA.mono (freeze_le hR nid) rfl rfl
  · obtain ⟨_, _, _, hv3⟩ := hv
    have hv4 : v = ν nid := (List.cons.inj hv3).1
    refine ⟨by rw [hv4]; exact h1, v, rfl, ?_⟩
    rw [hv4]
    exact sl_own hown fun g hg hz => hz (.inr (by rw [upd_box_same]; exact hg))
structure RenF (ρ : Nat → Option Nat) (E F : Env) : Prop where
  al : ∀ b c, ρ b = some c → E.al b → F.al c
  σ : ∀ b c, ρ b = some c → F.σ c = E.σ b
  ν : ∀ b c, ρ b = some c → F.ν c = E.ν b
  z : E.σ.le F.σ
theorem rnL_sound {ρ : Nat → Option Nat} {E F : Env} (hr : RenF ρ E F) : ∀ {bs cs : List Nat}, rnL ρ bs = some cs → (∀ b ∈ bs, E.al b) →
    (∀ c ∈ cs, F.al c) ∧ (cs.map fun b => Value.pointer (some ⟨F.σ.f b, 0, none⟩)) = bs.map fun b => Value.pointer (some ⟨E.σ.f b, 0, none⟩)
  | [], cs, h, _ => by
    simp only [rnL, Option.some.injEq] at h; subst h
    exact ⟨(fun c h => by cases h), rfl⟩
  | b :: bs, cs, h, ha => by
    simp only [rnL] at h
    split at h
    · rename_i c hc
      split at h
      · rename_i ds hd
        simp only [Option.some.injEq] at h; subst h
        obtain ⟨h1, h2⟩ := rnL_sound hr hd fun x hx => ha x (List.mem_cons_of_mem _ hx)
        refine ⟨fun x hx => ?_, ?_⟩
        · rcases List.mem_cons.1 hx with rfl | hx
          · exact hr.al _ _ hc (ha b (List.mem_cons_self ..))
          · exact h1 x hx
        · simp only [List.map_cons, h2]
          rw [show F.σ.f c = E.σ.f b from hr.σ _ _ hc]
      · cases h
    · cases h
theorem rnC_len {ρ : Nat → Option Nat} : ∀ {cs ds : List C1}, rnC ρ cs = some ds → ds.length = cs.length
  | [], ds, e => by simp only [rnC, Option.some.injEq] at e; subst e; rfl
  | .s x :: cs, ds, e => by
    obtain ⟨r, hr', rfl⟩ := Option.map_eq_some_iff.1 e
    simp [rnC_len hr']
  | .i k n :: cs, ds, e => by
    obtain ⟨r, hr', rfl⟩ := Option.map_eq_some_iff.1 e
    simp [rnC_len hr']
  | .o b :: cs, ds, e => by
    simp only [rnC] at e
    split at e
    · obtain ⟨r, hr', rfl⟩ := Option.map_eq_some_iff.1 e
      simp [rnC_len hr']
    · cases e
theorem rnC_sound {ρ : Nat → Option Nat} {E F : Env} (hr : RenF ρ E F) : ∀ {cs ds : List C1} {vs : List Value}, rnC ρ cs = some ds → C1sRel E cs vs → C1sRel F ds vs
  | [], ds, vs, e, h => by simp only [rnC, Option.some.injEq] at e; subst e; exact h
  | .s x :: cs, ds, vs, e, ⟨v, us, e1, h1, h2⟩ => by
    obtain ⟨r, hr', rfl⟩ := Option.map_eq_some_iff.1 e
    exact ⟨v, us, e1, h1, rnC_sound hr hr' h2⟩
  | .i k n :: cs, ds, vs, e, ⟨v, us, e1, h1, h2⟩ => by
    obtain ⟨r, hr', rfl⟩ := Option.map_eq_some_iff.1 e
    exact ⟨v, us, e1, h1, rnC_sound hr hr' h2⟩
  | .o b :: cs, ds, vs, e, ⟨v, us, e1, h1, h2⟩ => by
    simp only [rnC] at e
    split at e
    · rename_i c hc
      obtain ⟨r, hr', rfl⟩ := Option.map_eq_some_iff.1 e
      exact ⟨v, us, e1, ⟨hr.al _ _ hc h1.1, by rw [hr.ν _ _ hc]; exact h1.2.1, by rw [hr.ν _ _ hc]; exact h1.2.2⟩, rnC_sound hr hr' h2⟩
    · cases e
theorem rnP_sound {ρ : Nat → Option Nat} {E F : Env} (hr : RenF ρ E F) {p q : Part D.τ} {cs : List Value} (h : rnP D ρ p = some q) (hp : PartRel D E p cs) : PartRel D F q cs := by
  unfold rnP at h
  split at h
  case h_10 =>
    simp only [Option.some.injEq] at h; subst h
    obtain ⟨v, e, hs⟩ := hp
    exact ⟨v, e, pw_mono hr.z hs⟩
  case h_11 =>
    split at h
    · rename_i c hc
      simp only [Option.some.injEq] at h; subst h
      exact ⟨hr.al _ _ hc hp.1, by rw [hr.σ _ _ hc]; exact hp.2⟩
    · cases h
  case h_12 =>
    split at h
    · rename_i c hc
      simp only [Option.some.injEq] at h; subst h
      exact ⟨hr.al _ _ hc hp.1, by rw [hr.ν _ _ hc]; exact hp.2⟩
    · cases h
  case h_13 =>
    split at h
    · rename_i c hc
      simp only [Option.some.injEq] at h; subst h
      exact ⟨hr.al _ _ hc hp.1, by rw [hr.ν _ _ hc]; exact hp.2⟩
    · cases h
  case h_14 =>
    split at h
    · rename_i c hc
      simp only [Option.some.injEq] at h; subst h
      exact ⟨hr.al _ _ hc hp.1, by rw [hr.σ _ _ hc]; exact hp.2⟩
    · cases h
  case h_15 =>
    split at h
    · rename_i c hc
      simp only [Option.some.injEq] at h; subst h
      exact ⟨hr.al _ _ hc hp.1, by rw [hr.σ _ _ hc]; exact hp.2⟩
    · cases h
  case h_16 =>
    split at h
    · rename_i c hc
      simp only [Option.some.injEq] at h; subst h
      exact ⟨hr.al _ _ hc hp.1, by rw [hr.σ _ _ hc]; exact hp.2⟩
    · cases h
  case h_17 =>
    simp only [Option.some.injEq] at h; subst h
    exact ⟨hp.1, fun i r hr' => (hp.2 i r hr').mono hr.z⟩
  case h_18 =>
    simp only [Option.some.injEq] at h; subst h
    obtain ⟨v, e, hs⟩ := hp
    exact ⟨v, e, hs.mono hr.z⟩
  case h_19 =>
    split at h
    · rename_i c hc
      simp only [Option.some.injEq] at h; subst h
      exact ⟨hr.al _ _ hc hp.1, by rw [hr.σ _ _ hc]; exact hp.2⟩
    · cases h
  case h_20 =>
    simp only [Option.some.injEq] at h; subst h
    obtain ⟨v, e, hs⟩ := hp
    exact ⟨v, e, hs.mono hr.z⟩
  case h_23 =>
    split at h
    · rename_i c hc
      simp only [Option.some.injEq] at h; subst h
      exact ⟨hr.al _ _ hc hp.1, by rw [hr.σ _ _ hc]; exact hp.2⟩
    · cases h
  case h_24 =>
    split at h
    · rename_i cs hc
      simp only [Option.some.injEq] at h; subst h
      obtain ⟨h1, h2⟩ := rnL_sound hr hc hp.1
      exact ⟨h1, by rw [cloV, h2]; exact hp.2⟩
    · cases h
  case h_25 =>
    simp only [Option.some.injEq] at h; subst h
    exact ⟨hp.1, hp.2.1, fun i v hv => (hp.2.2 i v hv).mono hr.z⟩
  case h_26 =>
    split at h
    · rename_i ds hd
      simp only [Option.some.injEq] at h; subst h
      exact rnC_sound hr hd hp
    · cases h
  case h_27 => cases h
  all_goals (simp only [Option.some.injEq] at h; subst h; exact hp)
theorem rnPs_sound {ρ : Nat → Option Nat} {E F : Env} (hr : RenF ρ E F) : ∀ {ps qs : List (Part D.τ)} {cs : List Value}, rnPs D ρ ps = some qs → PartsRel D E ps cs → PartsRel D F qs cs
  | [], qs, cs, h, hp => by
    simp only [rnPs, Option.some.injEq] at h; subst h; exact hp
  | p :: ps, qs, cs, h, ⟨c1, c2, e, h1, h2⟩ => by
    simp only [rnPs] at h
    split at h
    · rename_i q hq
      split at h
      · rename_i qs' hqs
        simp only [Option.some.injEq] at h; subst h
        exact ⟨c1, c2, e, rnP_sound hr hq h1, rnPs_sound hr hqs h2⟩
      · cases h
    · cases h
theorem rn0_sound {ρ : Nat → Option Nat} {E F : Env} (hr : RenF ρ E F) {a b : A0 D.τ} {v : Value} (h : rn0 D ρ a = some b) (hp : A0Rel D E a v) : A0Rel D F b v := by
  unfold rn0 at h
  split at h
  · split at h
    · rename_i q hq
      simp only [Option.some.injEq] at h; subst h
      exact ⟨hp.1, rnP_sound hr hq hp.2⟩
    · cases h
  · split at h
    · rename_i q hq
      simp only [Option.some.injEq] at h; subst h
      obtain ⟨cs, e, hps⟩ := hp
      exact ⟨cs, e, rnPs_sound hr hq hps⟩
    · cases h
theorem rn0s_sound {ρ : Nat → Option Nat} {E F : Env} (hr : RenF ρ E F) : ∀ {ps qs : List (A0 D.τ)} {vs : List Value}, rn0s D ρ ps = some qs → A0sRel D E ps vs → A0sRel D F qs vs
  | [], qs, cs, h, hp => by
    simp only [rn0s, Option.some.injEq] at h; subst h; exact hp
  | p :: ps, qs, cs, h, ⟨v, us, e, h1, h2⟩ => by
    simp only [rn0s] at h
    split at h
    · rename_i q hq
      split at h
      · rename_i qs' hqs
        simp only [Option.some.injEq] at h; subst h
        exact ⟨v, us, e, rn0_sound hr hq h1, rn0s_sound hr hqs h2⟩
      · cases h
    · cases h
theorem rnA_sound {ρ : Nat → Option Nat} {E F : Env} (hr : RenF ρ E F) {a b : AV D.τ} {v : Value} (h : rnA D ρ a = some b) (hp : AVRel D E a v) : AVRel D F b v := by
  unfold rnA at h
  split at h
  · split at h
    · rename_i q hq
      simp only [Option.some.injEq] at h; subst h
      exact rn0_sound hr hq hp
    · cases h
  · split at h
    · rename_i q hq
      simp only [Option.some.injEq] at h; subst h
      obtain ⟨vs, e, hps⟩ := hp
      exact ⟨vs, e, rn0s_sound hr hq hps⟩
    · cases h
theorem rnB_al {ρ : Nat → Option Nat} {s t : BoxSt D.τ} (h : rnB D ρ s = some t) : s.al ∧ t.al := by
  unfold rnB at h
  split at h
  · cases h
  · simp only [Option.some.injEq] at h; subst h; exact ⟨trivial, trivial⟩
  · split at h
    · simp only [Option.some.injEq] at h; subst h; exact ⟨trivial, trivial⟩
    · cases h
  · split at h
    · simp only [Option.some.injEq] at h; subst h; exact ⟨trivial, trivial⟩
    · cases h
  · simp only [Option.some.injEq] at h; subst h; exact ⟨trivial, trivial⟩
  · split at h
    · simp only [Option.some.injEq] at h; subst h; exact ⟨trivial, trivial⟩
    · cases h
theorem rnB_blk {ρ : Nat → Option Nat} {E F : Env} {b c : Nat} (hσ : F.σ c = E.σ b) (hν : F.ν c = E.ν b) (hφ : F.σ.φ c = E.σ.φ b) {s t : BoxSt D.τ} (h : rnB D ρ s = some t) {g : Nat} : Fp D F c t g ↔ Fp D E b s g := by
  unfold rnB at h
  split at h
  · cases h
  · simp only [Option.some.injEq] at h; subst h; exact Iff.rfl
  · split at h
    · simp only [Option.some.injEq] at h; subst h; simp only [Fp, blk, hσ]
    · cases h
  · split at h
    · simp only [Option.some.injEq] at h; subst h; simp only [Fp, blk, hν]
    · cases h
  · simp only [Option.some.injEq] at h; subst h; simp only [Fp, hφ]
  · split at h
    · simp only [Option.some.injEq] at h; subst h; simp only [Fp, hφ]
    · cases h
theorem rnP_esz {ρ : Nat → Option Nat} {p q : Part D.τ} (h : rnP D ρ p = some q) : esz D q = esz D p := by
  unfold rnP at h
  repeat' split at h
  all_goals first
    | (simp only [Option.some.injEq] at h; subst h; rfl)
    | (rename_i hd; simp only [Option.some.injEq] at h; subst h; exact rnC_len hd)
    | cases h
theorem ValRel.ren {ρ : Nat → Option Nat} {E F : Env} (hr : RenF ρ E F) {agg : Bool} {ps qs : List (Part D.τ)} {v : Value} (h : rnPs D ρ ps = some qs) (hv : ValRel D E agg ps v) : ValRel D F agg qs v := by
  cases agg with
  | true => obtain ⟨cs, e, hp⟩ := hv; exact ⟨cs, e, rnPs_sound hr h hp⟩
  | false => exact ⟨hv.1, rnPs_sound hr h hv.2⟩
theorem FamRel.ren {X : Env → World → Nat → BoxSt D.τ → Prop} (hX : Stays X) {E F : Env} (hz : E.σ.le F.σ) {w : World} {b c k : Nat} (hσ : F.σ c = E.σ b) (hν : F.ν c = E.ν b) (hφ : F.σ.φ c = E.σ.φ b)
    {es : List (Rec × Ob)} {out out' : Option (Rec × List (Part D.τ))} (ho : (out = none ∧ out' = none) ∨ ∃ x ps qs, out = some (x, ps) ∧ out' = some (x, qs) ∧ ∀ agg v, ValRel D E agg ps v → ValRel D F agg qs v)
    (h : FamRel D X E w b k es out) : FamRel D X F w c k es out' := by
  obtain ⟨fd, hfd, vs, Fs, hc, hn, hl, hlt, hic, hou, hen, hfs, hdj⟩ := h
  have hicont : ∀ g, IsCont D fd F c g ↔ IsCont D fd E b g := by
    intro g
    unfold IsCont
    cases fd.row <;> simp only [hσ, hν]
  refine ⟨fd, hfd, vs, Fs, ?_, hn, hl, fun g hg => hlt g (by rw [← hφ]; exact hg), fun g hg => by rw [hφ]; exact hic g ((hicont g).1 hg), ?_, fun i key ob v hi hv => ?_, fun i g hg => ?_, hdj⟩
  · unfold ContRel at hc ⊢
    cases hr : fd.row with
    | true =>
      simp only [hr] at hc ⊢
      rw [hν]
      exact hc
    | false =>
      simp only [hr] at hc ⊢
      rw [hσ]
      exact hc
  · rintro x qs e
    rcases ho with ⟨_, h2⟩ | ⟨y, ps, qs', h1, h2, _⟩
    · rw [h2] at e; cases e
    · rw [h2] at e
      simp only [Option.some.injEq, Prod.mk.injEq] at e
      rw [← e.1]
      exact hou y ps h1
  · rcases hen i key ob v hi hv with ⟨ps, h1, h2⟩ | ⟨h1, h2⟩
    · rcases ho with ⟨h3, _⟩ | ⟨y, ps', qs', h3, h4, h5⟩
      · rw [h3] at h1; cases h1
      · rw [h3] at h1
        simp only [Option.some.injEq, Prod.mk.injEq] at h1
        obtain ⟨rfl, rfl⟩ := h1
        exact .inl ⟨qs', h4, h5 _ _ h2⟩
    · refine .inr ⟨fun qs e => ?_, h2.mono hX hz fun _ _ => rfl⟩
      rcases ho with ⟨_, h4⟩ | ⟨y, ps', qs', h3, h4, _⟩
      · rw [h4] at e; cases e
      · rw [h4] at e
        simp only [Option.some.injEq, Prod.mk.injEq] at e
        obtain ⟨rfl, rfl⟩ := e
        exact h1 ps' h3
  · rw [hφ]
    exact ⟨(hfs i g hg).1, fun h => (hfs i g hg).2 ((hicont g).1 h)⟩
theorem rnB_rel {ρ : Nat → Option Nat} {E F : Env} (hr : RenF ρ E F) {w : World} {b c : Nat} (hσ : F.σ c = E.σ b) (hν : F.ν c = E.ν b) (hφ : F.σ.φ c = E.σ.φ b) {s t : BoxSt D.τ} (h : rnB D ρ s = some t) (hb : BoxRel D E w b s) : BoxRel D F w c t := by
  unfold rnB at h
  split at h
  · cases h
  · simp only [Option.some.injEq] at h; subst h; trivial
  · split at h
    · rename_i q hq
      simp only [Option.some.injEq] at h; subst h
      obtain ⟨cs, h1, h2⟩ := hb
      exact ⟨cs, by rw [hσ]; exact h1, rnPs_sound hr hq h2⟩
    · cases h
  · split at h
    · rename_i q hq
      simp only [Option.some.injEq] at h; subst h
      obtain ⟨n, xs, h1, h2, h3⟩ := hb
      exact ⟨n, xs, by rw [hν, rnP_esz hq]; exact h1, rnP_sound hr hq h2, by rw [hν]; exact h3⟩
    · cases h
  · simp only [Option.some.injEq] at h; subst h
    exact FamRel.ren (XK_stays _) hr.z hσ hν hφ (.inl ⟨rfl, rfl⟩) hb
  · split at h
    · rename_i qs hq
      simp only [Option.some.injEq] at h; subst h
      exact FamRel.ren (XK_stays _) hr.z hσ hν hφ (.inr ⟨_, _, _, rfl, rfl, fun agg v hv => hv.ren hr hq⟩) hb
    · cases h
theorem rnBs_get {ρ : Nat → Option Nat} : ∀ {ss ts : List (BoxSt D.τ)}, rnBs D ρ ss = some ts → ts.length = ss.length ∧ ∀ (i : Nat) s, ss[i]? = some s → ∃ t, ts[i]? = some t ∧ rnB D ρ s = some t
  | [], ts, h => by
    simp only [rnBs, Option.some.injEq] at h; subst h
    exact ⟨rfl, fun i s h => by cases h⟩
  | p :: ps, ts, h => by
    simp only [rnBs] at h
    split at h
    · rename_i q hq
      split at h
      · rename_i qs' hqs
        simp only [Option.some.injEq] at h; subst h
        obtain ⟨h1, h2⟩ := rnBs_get hqs
        refine ⟨by simp [h1], fun i s hs => ?_⟩
        cases i with
        | zero => simp only [List.getElem?_cons_zero, Option.some.injEq] at hs; subst hs; exact ⟨q, rfl, hq⟩
        | succ i => exact h2 i s (by simpa using hs)
      · cases h
    · cases h
theorem idxFrom_spec : ∀ {cs : List Nat} {i j b : Nat}, idxFrom i cs b = some j → i ≤ j ∧ cs[j - i]? = some b
  | [], i, j, b, h => by cases h
  | c :: cs, i, j, b, h => by
    simp only [idxFrom] at h
    cases hb : Nat.beq b c <;> simp only [hb, cond_true, cond_false] at h
    · obtain ⟨h1, h2⟩ := idxFrom_spec h
      refine ⟨by omega, ?_⟩
      rw [show j - i = (j - (i + 1)) + 1 from by omega]
      exact h2
    · simp only [Option.some.injEq] at h
      subst h
      have := Nat.eq_of_beq_eq_true hb
      subst this
      exact ⟨Nat.le_refl _, by simp⟩
theorem idx_spec {ids : List Nat} {b i : Nat} (h : idx ids b = some i) : ids[i]? = some b := by
  have := (idxFrom_spec h).2
  simpa using this
theorem nodupB_spec : ∀ {bs : List Nat}, nodupB bs = true → bs.Nodup
  | [], _ => List.nodup_nil
  | b :: bs, h => by
    simp only [nodupB, Bool.and_eq_true, Bool.not_eq_true'] at h
    exact List.nodup_cons.2 ⟨any_beq_false h.1, nodupB_spec h.2⟩
theorem newIds_get : ∀ (n nid i : Nat), (newIds nid n)[i]? = if i < n then some (nid + i) else none
  | 0, nid, i => by simp [newIds]
  | n + 1, nid, 0 => by simp [newIds]
  | n + 1, nid, i + 1 => by
    simp only [newIds, List.getElem?_cons_succ]
    rw [newIds_get n (nid + 1) i]
    by_cases h : i < n
    · rw [if_pos h, if_pos (by omega)]; congr 1; omega
    · rw [if_neg h, if_neg (by omega)]
theorem newIds_len : ∀ (n nid : Nat), (newIds nid n).length = n
  | 0, _ => rfl
  | n + 1, nid => by simp [newIds, newIds_len n]
theorem bx_zip : ∀ (js : List Nat) (us : List (BoxSt D.τ)) (S : St D.τ) (c : Nat), js.Nodup → js.length = us.length →
    (∀ i : Nat, js[i]? = some c → (S.bx (zipU js us)).box c = (us[i]?).getD .un) ∧ (c ∉ js → (S.bx (zipU js us)).box c = S.box c)
  | [], us, S, c, _, _ => ⟨fun i h => by simp at h, fun _ => rfl⟩
  | j :: js, [], S, c, _, hl => by simp at hl
  | j :: js, u :: us, S, c, hn, hl => by
    rw [List.nodup_cons] at hn
    obtain ⟨ih1, ih2⟩ := bx_zip js us (S.upd (.box j u)) c hn.2 (by simpa using hl)
    refine ⟨fun i hi => ?_, fun hc => ?_⟩
    · show ((S.upd (.box j u)).bx (zipU js us)).box c = _
      cases i with
      | zero =>
        simp only [List.getElem?_cons_zero, Option.some.injEq] at hi
        subst hi
        rw [ih2 hn.1, upd_box_same]; rfl
      | succ i => rw [ih1 i (by simpa using hi)]; simp
    · show ((S.upd (.box j u)).bx (zipU js us)).box c = _
      simp only [List.mem_cons, not_or] at hc
      rw [ih2 hc.2, upd_box_other S _ hc.1]
theorem bst_box {τ : Type} (n : Nat) (bs : List (BoxSt τ)) (i : Nat) : (bst n bs).box i = (bs[i]?).getD .un := by
  show (match bs[i]? with | some s => s | none => .un) = _
  cases bs[i]? <;> rfl
theorem lands_op {M : Mem} {w0 : World} {σ : Loc} {ν : Nat → Value} {S : St D.τ} {a : Act} {w w' : World} (hR : RR D M w0 σ ν S w) (hA : RA D M w0 σ ν S a)
    {ids : List Nat} (hnd : ids.Nodup) {bs : List (BoxSt D.τ)} (hbs : rnBs D (idx ids) (ids.map S.box) = some bs) {nid : Nat} {bs' us : List (BoxSt D.τ)} {r r' : AV D.τ} {js : List Nat} (hjs : js = ids ++ newIds nid (bs'.length - ids.length)) (hlen : ids.length ≤ bs'.length)
    (hun : ∀ i, i < bs'.length - ids.length → S.box (nid + i) = .un) (hr : rnA D (fun i => js[i]?) r = some r') (hus : rnBs D (fun i => js[i]?) bs' = some us) {v : Value} {σ' : Loc} {ν' : Nat → Value} {qs : List Prop}
    (hR' : RR D (opMem D w ⟨fun i => σ (ids.getD i 0), σ.zw, σ.zm, fun i => σ.φ (ids.getD i 0)⟩ (fun i => ν (ids.getD i 0)) bs) w σ' ν' (bst bs.length bs') w')
    (hv : AVRel D ((bst bs.length bs').env D (opMem D w ⟨fun i => σ (ids.getD i 0), σ.zw, σ.zm, fun i => σ.φ (ids.getD i 0)⟩ (fun i => ν (ids.getD i 0)) bs) w σ' ν') r v) :
    Lands M w0 S a ⟨r', zipU js us, qs⟩ v w' := by
  obtain ⟨hbl, hbg⟩ := rnBs_get hbs
  obtain ⟨hul, hug⟩ := rnBs_get hus
  rw [List.length_map] at hbl
  have hal : ∀ b, b ∈ ids → (S.box b).al := by
    intro b hb
    obtain ⟨i, hi⟩ := List.mem_iff_getElem?.1 hb
    obtain ⟨t, _, ht⟩ := hbg i (S.box b) (by rw [List.getElem?_map, hi]; rfl)
    exact (rnB_al ht).1
  have hjl : js.length = bs'.length := by rw [hjs, List.length_append, newIds_len]; omega
  have hjget : ∀ (i : Nat) c, js[i]? = some c → (i < ids.length ∧ ids[i]? = some c) ∨ (ids.length ≤ i ∧ i < bs'.length ∧ c = nid + (i - ids.length) ∧ S.box c = .un) := by
    intro i c hi
    rw [hjs] at hi
    by_cases h : i < ids.length
    · rw [List.getElem?_append_left h] at hi; exact .inl ⟨h, hi⟩
    · rw [List.getElem?_append_right (by omega), newIds_get] at hi
      by_cases h2 : i - ids.length < bs'.length - ids.length
      · rw [if_pos h2] at hi
        simp only [Option.some.injEq] at hi
        subst hi
        exact .inr ⟨by omega, by omega, rfl, hun _ h2⟩
      · rw [if_neg h2] at hi; cases hi
  have hjnd : ∀ (i i' : Nat) c, js[i]? = some c → js[i']? = some c → i = i' := by
    intro i i' c h1 h2
    rcases hjget i c h1 with ⟨q1, q2⟩ | ⟨q1, q2, q3, q4⟩ <;> rcases hjget i' c h2 with ⟨p1, p2⟩ | ⟨p1, p2, p3, p4⟩
    · exact (List.getElem?_inj q1 hnd).1 (by rw [q2, p2])
    · have := hal c (List.mem_of_getElem? q2); rw [p4] at this; exact this.elim
    · have := hal c (List.mem_of_getElem? p2); rw [q4] at this; exact this.elim
    · omega
  have hjnodup : js.Nodup := by
    refine List.pairwise_iff_getElem.2 fun i j hi hj hij heq => ?_
    have h1 : js[i]? = some js[i] := List.getElem?_eq_getElem hi
    have h2 : js[j]? = some js[i] := by rw [heq]; exact List.getElem?_eq_getElem hj
    have := hjnd i j _ h1 h2
    omega
  -- what the callee may write
  have hMp : ∀ g, (opMem D w ⟨fun i => σ (ids.getD i 0), σ.zw, σ.zm, fun i => σ.φ (ids.getD i 0)⟩ (fun i => ν (ids.getD i 0)) bs).f g ↔ ∃ b ∈ ids, Fp D (S.env D M w0 σ ν) b (S.box b) g := by
    intro g
    constructor
    · rintro ⟨i, hi⟩
      rw [bst_box] at hi
      cases hbi : bs[i]? with
      | none => rw [hbi] at hi; cases hi
      | some t =>
        rw [hbi, Option.getD_some] at hi
        have hlt : i < ids.length := by have := (List.getElem?_eq_some_iff.1 hbi).1; omega
        have hidi : ids[i]? = some ids[i] := List.getElem?_eq_getElem hlt
        obtain ⟨t', ht', hrt⟩ := hbg i (S.box ids[i]) (by rw [List.getElem?_map, hidi]; rfl)
        rw [hbi] at ht'
        simp only [Option.some.injEq] at ht'
        subst ht'
        refine ⟨ids[i], List.getElem_mem hlt, ?_⟩
        exact (rnB_blk (E := S.env D M w0 σ ν) (F := ⟨fun _ => True, ⟨fun i => σ (ids.getD i 0), σ.zw, σ.zm, fun i => σ.φ (ids.getD i 0)⟩, fun i => ν (ids.getD i 0), w, fun _ => False, none⟩) (b := ids[i]) (c := i) (by show σ (ids.getD i 0) = σ ids[i]; simp [hidi, List.getD_eq_getElem?_getD]) (by show ν (ids.getD i 0) = ν ids[i]; simp [hidi, List.getD_eq_getElem?_getD]) (by show σ.φ (ids.getD i 0) = σ.φ ids[i]; simp [hidi, List.getD_eq_getElem?_getD]) hrt).1 hi
    · rintro ⟨b, hb, hg⟩
      obtain ⟨i, hi⟩ := List.mem_iff_getElem?.1 hb
      obtain ⟨t, ht, hrt⟩ := hbg i (S.box b) (by rw [List.getElem?_map, hi]; rfl)
      refine ⟨i, ?_⟩
      rw [bst_box, ht, Option.getD_some]
      refine (rnB_blk (E := S.env D M w0 σ ν) (F := ⟨fun _ => True, ⟨fun i => σ (ids.getD i 0), σ.zw, σ.zm, fun i => σ.φ (ids.getD i 0)⟩, fun i => ν (ids.getD i 0), w, fun _ => False, none⟩) (b := b) (c := i) (by show σ (ids.getD i 0) = σ b; simp [hi, List.getD_eq_getElem?_getD]) (by show ν (ids.getD i 0) = ν b; simp [hi, List.getD_eq_getElem?_getD]) (by show σ.φ (ids.getD i 0) = σ.φ b; simp [hi, List.getD_eq_getElem?_getD]) hrt).2 hg
  generalize hMc : opMem D w ⟨fun i => σ (ids.getD i 0), σ.zw, σ.zm, fun i => σ.φ (ids.getD i 0)⟩ (fun i => ν (ids.getD i 0)) bs = Mc at hR' hv hMp
  have hpinc : ∀ i, Mc.pin i = (σ (ids.getD i 0), ν (ids.getD i 0)) := by rw [← hMc]; intro i; rfl
  have hzmc : Mc.zm = σ.zm ∧ Mc.zw = σ.zw := by rw [← hMc]; exact ⟨rfl, rfl⟩
  -- the new names
  let σ2 : Loc := ⟨fun c => match idx js c with | some i => σ' i | none => σ c, σ'.zw, σ'.zm, fun c => match idx js c with | some i => σ'.φ i | none => σ.φ c⟩
  let ν2 : Nat → Value := fun c => match idx js c with | some i => ν' i | none => ν c
  have hin : ∀ (i : Nat) c, js[i]? = some c → σ2 c = σ' i ∧ ν2 c = ν' i ∧ σ2.φ c = σ'.φ i := by
    intro i c hi
    have hx : ∃ j, idx js c = some j := by
      have : ∀ (cs : List Nat) (n : Nat), c ∈ cs → ∃ j, idxFrom n cs c = some j := by
        intro cs
        induction cs with
        | nil => intro n h; cases h
        | cons d cs ih =>
          intro n h
          simp only [idxFrom]
          cases hb : Nat.beq c d
          · rcases List.mem_cons.1 h with rfl | h
            · simp at hb
            · exact ih (n + 1) h
          · exact ⟨n, rfl⟩
      exact this js 0 (List.mem_of_getElem? hi)
    obtain ⟨j, hj⟩ := hx
    have := hjnd i j c hi (idx_spec hj)
    subst this
    exact ⟨by show (match idx js c with | some i => σ' i | none => σ c) = σ' i; rw [hj], by show (match idx js c with | some i => ν' i | none => ν c) = ν' i; rw [hj], by show (match idx js c with | some i => σ'.φ i | none => σ.φ c) = σ'.φ i; rw [hj]⟩
  have hout : ∀ c, c ∉ js → σ2 c = σ c ∧ ν2 c = ν c ∧ σ2.φ c = σ.φ c := by
    intro c hc
    have hx : idx js c = none := by
      cases h : idx js c with
      | none => rfl
      | some i => exact (hc (List.mem_of_getElem? (idx_spec h))).elim
    exact ⟨by show (match idx js c with | some i => σ' i | none => σ c) = σ c; rw [hx], by show (match idx js c with | some i => ν' i | none => ν c) = ν c; rw [hx], by show (match idx js c with | some i => σ'.φ i | none => σ.φ c) = σ.φ c; rw [hx]⟩
  have hold : ∀ (i : Nat) c, ids[i]? = some c → σ2 c = σ c ∧ ν2 c = ν c := by
    intro i c hi
    have hlt : i < ids.length := (List.getElem?_eq_some_iff.1 hi).1
    have hji : js[i]? = some c := by rw [hjs, List.getElem?_append_left hlt]; exact hi
    obtain ⟨h1, h2, _⟩ := hin i c hji
    obtain ⟨p1, p2, _⟩ := hR'.pins i (by show i < bs.length; omega)
    have hgd : ids.getD i 0 = c := by simp [hi, List.getD_eq_getElem?_getD]
    rw [hpinc, hgd] at p1 p2
    exact ⟨h1.trans p1, h2.trans p2⟩
  unfold Lands
  simp only
  generalize hS' : S.bx (zipU js us) = S'
  have hsl := bx_slot (zipU js us) S
  have hnp := bx_np (zipU js us) S
  rw [hS'] at hsl hnp
  have hbz : ∀ c, (∀ i : Nat, js[i]? = some c → S'.box c = (us[i]?).getD .un) ∧ (c ∉ js → S'.box c = S.box c) := fun c => by rw [← hS']; exact bx_zip js us S c hjnodup (by omega)
  have hbi : ∀ (i : Nat) c, js[i]? = some c → ∃ s t, bs'[i]? = some s ∧ us[i]? = some t ∧ rnB D (fun i => js[i]?) s = some t ∧ S'.box c = t := by
    intro i c hi
    have hlt : i < bs'.length := by have := (List.getElem?_eq_some_iff.1 hi).1; omega
    obtain ⟨t, ht, hrt⟩ := hug i bs'[i] (List.getElem?_eq_getElem hlt)
    exact ⟨_, t, List.getElem?_eq_getElem hlt, ht, hrt, by rw [(hbz c).1 i hi, ht]; rfl⟩
  have hz : σ.le σ2 := by
    intro g hg
    have := hR'.z0 g (by rw [hzmc.1]; exact hg)
    exact ⟨this.1, by rw [← hzmc.2]; exact this.2⟩
  have hle : (S.env D M w0 σ ν).le (S'.env D M w0 σ2 ν2) := by
    refine ⟨fun c h => ?_, fun c h => ?_, fun c h => ?_, rfl, rfl, ⟨rfl, rfl⟩, hz⟩
    · show (S'.box c).al
      by_cases hc : c ∈ js
      · obtain ⟨i, hi⟩ := List.mem_iff_getElem?.1 hc
        obtain ⟨s, t, _, _, h3, h4⟩ := hbi i c hi
        rw [h4]; exact (rnB_al h3).2
      · rw [(hbz c).2 hc]; exact h
    · by_cases hc : c ∈ js
      · obtain ⟨i, hi⟩ := List.mem_iff_getElem?.1 hc
        rcases hjget i c hi with ⟨_, q⟩ | ⟨_, _, _, q⟩
        · exact (hold i c q).1
        · have h' : (S.box c).al := h
          rw [q] at h'; exact h'.elim
      · exact (hout c hc).1
    · by_cases hc : c ∈ js
      · obtain ⟨i, hi⟩ := List.mem_iff_getElem?.1 hc
        rcases hjget i c hi with ⟨_, q⟩ | ⟨_, _, _, q⟩
        · exact (hold i c q).2
        · have h' : (S.box c).al := h
          rw [q] at h'; exact h'.elim
      · exact (hout c hc).2.1
  have hren : RenF (fun i => js[i]?) ((bst bs.length bs').env D Mc w σ' ν') (S'.env D M w0 σ2 ν2) := by
    refine ⟨fun i c hi _ => ?_, fun i c hi => (hin i c hi).1, fun i c hi => (hin i c hi).2.1, Loc.le_refl _⟩
    obtain ⟨s, t, _, _, h3, h4⟩ := hbi i c hi
    show (S'.box c).al
    rw [h4]; exact (rnB_al h3).2
  have hblk : ∀ (i : Nat) c g, js[i]? = some c → Fp D (S'.env D M w0 σ2 ν2) c (S'.box c) g → Fp D ((bst bs.length bs').env D Mc w σ' ν') i ((bst bs.length bs').box i) g := by
    intro i c g hi hg
    obtain ⟨s, t, h1, _, h3, h4⟩ := hbi i c hi
    rw [h4] at hg
    rw [bst_box, h1, Option.getD_some]
    exact (rnB_blk (E := (bst bs.length bs').env D Mc w σ' ν') (F := S'.env D M w0 σ2 ν2) (hin i c hi).1 (hin i c hi).2.1 (hin i c hi).2.2 h3).1 hg
  have hnoMc : ∀ c g, c ∉ js → Fp D (S.env D M w0 σ ν) c (S.box c) g → ¬ Mc g := by
    intro c g hc hg hm
    obtain ⟨b, hb, hbg'⟩ := (hMp g).1 hm
    refine hR.disj c b g (fun e => hc ?_) hg hbg'
    subst e
    rw [hjs]; exact List.mem_append_left _ hb
  have hbo : ∀ c g, c ∉ js → Fp D (S'.env D M w0 σ2 ν2) c (S'.box c) g → Fp D (S.env D M w0 σ ν) c (S.box c) g := by
    intro c g hc hg
    rw [(hbz c).2 hc] at hg
    cases hs : S.box c <;> rw [hs] at hg <;> simp only [Fp, blk] at hg ⊢
    · cases hg
    · cases hg
    · rw [← hg]; exact congrArg some (hout c hc).1.symm
    · rw [← hg]; exact congrArg Value.ownBlock (hout c hc).2.1.symm
    · rw [show (S'.env D M w0 σ2 ν2).σ.φ c = σ.φ c from (hout c hc).2.2] at hg; exact hg
  have hlo : ∀ c g, c ∈ js → Fp D (S'.env D M w0 σ2 ν2) c (S'.box c) g → w.heap.size ≤ g ∨ Mc g := by
    intro c g hc hg
    obtain ⟨i, hi⟩ := List.mem_iff_getElem?.1 hc
    exact hR'.lo i g (hblk i c g hi hg)
  refine ⟨σ2, ν2, hR.step hle (fun c => c ∈ js) (fun c hc => ?_) (fun c hc => .inl ⟨(hbz c).2 hc, fun g hg => ?_⟩) (fun c c' g hc hne h1 h2 => ?_) (fun c g hc hg => ?_) ?_ hnp hR'.zk (fun c g hc hg => ?_) (fun c g hc hg _ hz' => ?_) (fun g hg => ?_) (fun c hc => (hout c hc).2.2), hA.mono hle hsl.1 hsl.2, rnA_sound hren hr hv⟩
  · obtain ⟨i, hi⟩ := List.mem_iff_getElem?.1 hc
    obtain ⟨s, t, h1, _, h3, h4⟩ := hbi i c hi
    have hb := hR'.boxes i
    rw [bst_box, h1, Option.getD_some] at hb
    rw [h4]
    exact rnB_rel hren (hin i c hi).1 (hin i c hi).2.1 (hin i c hi).2.2 h3 hb
  · exact hR'.kept.block g (blk_lt hR hg) (hnoMc c g hc hg)
  · by_cases hc' : c' ∈ js
    · obtain ⟨i, hi⟩ := List.mem_iff_getElem?.1 hc
      obtain ⟨i', hi'⟩ := List.mem_iff_getElem?.1 hc'
      refine hR'.disj i i' g (fun e => hne ?_) (hblk i c g hi h1) (hblk i' c' g hi' h2)
      subst e
      rw [hi] at hi'
      exact Option.some.inj hi'
    · have h3 := hbo c' g hc' h2
      rcases hlo c g hc h1 with h | h
      · have := blk_lt hR h3; omega
      · exact hnoMc c' g hc' h3 h
  · rcases hlo c g hc hg with h | h
    · exact .inl (Nat.le_trans hR.kept.size h)
    · obtain ⟨b, _, hb⟩ := (hMp g).1 h
      exact hR.lo b g hb
  · refine ⟨hR'.kept.os.trans hR.kept.os, hR'.kept.tape.trans hR.kept.tape, hR'.kept.output.trans hR.kept.output, Nat.le_trans hR.kept.size hR'.kept.size, fun g hg hm => ?_⟩
    rw [← hR.kept.block g hg hm]
    refine hR'.kept.block g (Nat.lt_of_lt_of_le hg hR.kept.size) (fun hc => ?_)
    obtain ⟨b, _, hb⟩ := (hMp g).1 hc
    rcases hR.lo b g hb with h | h
    · omega
    · exact hm h
  · obtain ⟨i, hi⟩ := List.mem_iff_getElem?.1 hc
    exact hR'.zd i g (hblk i c g hi hg)
  · rcases hR'.zn g hz' with h | h | h
    · rw [hzmc.1] at h; exact hR.zd c g hg h
    · have := blk_lt hR hg; omega
    · exact hnoMc c g hc hg h
  · rcases hR'.zn g hg with h | h | h
    · rw [hzmc.1] at h; exact .inl h
    · exact .inr (.inl (Nat.le_trans hR.kept.size h))
    · obtain ⟨b, _, hb⟩ := (hMp g).1 h
      exact .inr (hR.lo b g hb)
end
end Go.Abs
namespace Go.Abs
open Go.RowKit
section
variable {P : Program} {D : Dom}
theorem intsAt_sound {E : Env} {ps : List (Part D.τ)} {base N : Nat} {k : IntKind} {l : List Int} {cs : List Value} (h : intsAt D ps base N = some (k, l)) (hp : PartsRel D E ps cs) :
    ∃ c1 c3, cs = c1 ++ (l.map (Value.int k) ++ c3) ∧ c1.length = base ∧ l.length = N := by
  unfold intsAt at h
  split at h
  · rename_i m1 m m2 hsp
    split at h
    · split at h
      · rename_i kd _ il hil
        simp only [Option.some.injEq, Prod.mk.injEq] at h
        obtain ⟨rfl, rfl⟩ := h
        obtain ⟨c1, c2, c3, he, hl1, hl2, hr1, hr2, hr3⟩ := splitP_sound hsp hp
        have hc2 := allInts_rel hil hr2
        subst hc2
        exact ⟨c1, c3, he, hl1, by simpa using hl2⟩
      · cases h
    · cases h
  · cases h
theorem RR.glob_now {M : Mem} {w0 : World} {σ : Loc} {ν : Nat → Value} {S : St D.τ} {w : World} (hR : RR D M w0 σ ν S w) {g : Nat} {k : IntKind} {l : List Int} (h : D.glob g = some (k, l)) :
    ¬ M g ∧ (∀ i, i < l.length → w0.cell? ⟨g, i, none⟩ = some (.int k (l.getD i 0))) ∧ ∀ i, i < l.length → w.cell? ⟨g, i, none⟩ = some (.int k (l.getD i 0)) := by
  obtain ⟨h1, h2⟩ := hR.glob.1 g k l h
  have h3 := hR.glob.2 g k l h
  refine ⟨h3, h2, fun i hi => ?_⟩
  rw [← h2 i hi]
  exact World.cell?_of_block (hR.kept.block g h1 h3)
theorem RR.globAt {M : Mem} {w0 : World} {σ : Loc} {ν : Nat → Value} {S : St D.τ} {w : World} (hR : RR D M w0 σ ν S w) : GlobAt D w := fun g k l h =>
  ⟨Nat.lt_of_lt_of_le (hR.glob.1 g k l h).1 hR.kept.size, (hR.glob_now h).2.2⟩
theorem getElem?_map_int {k : IntKind} {l : List Int} {j : Nat} {v : Value} (h : (l.map (Value.int k))[j]? = some v) : j < l.length ∧ v = .int k (l.getD j 0) := by
  have hj : j < l.length := by have := (List.getElem?_eq_some_iff.1 h).1; simpa using this
  rw [getD_ints hj] at h
  exact ⟨hj, (Option.some.inj h).symm⟩
theorem sound_load2 (t : TypeId) (x : Operand) : Sound P D (oLoad2 P D t x) (fun ρ => do pure (.value (← Instr.loadAt t (ρ x)))) := by
  intro S r l h hps M w0 a w hRA
  unfold oLoad2 at h
  split at h
  · rename_i g
    obtain ⟨σ, ν, hR, hA⟩ := hRA
    split at h
    · rename_i k il hg
      split at h
      · rename_i n hsz
        cases hb : (aggB P t && Nat.beq n il.length) <;> simp only [hb, cond_true, cond_false, run_fail] at h
        simp only [Bool.and_eq_true] at hb
        simp only [run_ret] at h
        obtain ⟨rfl, _⟩ := h
        have hn := Nat.eq_of_beq_eq_true hb.2
        subst hn
        have hc : ∀ j v, (il.map (Value.int k))[j]? = some v → w.cell? ((⟨g, 0, none⟩ : Addr).add j) = some v := by
          intro j v hv
          obtain ⟨hj, rfl⟩ := getElem?_map_int hv
          rw [Addr.add_lit, Nat.zero_add]
          exact (hR.glob_now hg).2.2 j hj
        have hrun := (run_loadVarB (P := P) (a := ⟨g, 0, none⟩) (cs := il.map (Value.int k)) (by rw [List.length_map]; exact hsz) hc).1 hb.1
        exact upTo_load rfl hrun (lands_pure hR hA ⟨_, rfl, _, [], by simp, ⟨rfl, rfl⟩, rfl⟩)
      · simp at h
    · simp at h
  · rename_i x' _
    split at h
    · simp at h
    rename_i n hsz
    obtain ⟨av, l0, hav, h⟩ := rdA_run h
    split at h
    · rename_i b base N i
      obtain ⟨σ, ν, hR, hA⟩ := hRA
      have hx := evalA_rel hA hav
      obtain ⟨hone, hal, hiN, hv⟩ := hx
      simp only [List.cons.injEq, and_true] at hv
      have hv' : a.eval x = .pointer (some ⟨σ b, base + i, none⟩) := hv
      cases hagg : aggB P t <;> simp only [hagg, cond_true, cond_false, run_fail] at h
      obtain ⟨l1, h⟩ := box_run h
      have hb := hR.boxes b
      split at h
      · rename_i ty ps hbx
        rw [hbx] at hb
        obtain ⟨cs, hg, hp⟩ := hb
        have hg' : w.heap[σ b]? = some (.cells cs ty (0, 0)) := hg
        split at h
        · rename_i k il hil
          have hr := ok1_run h
          subst hr
          obtain ⟨c1, c3, he, hl1, hl2⟩ := intsAt_sound hil hp
          have hcell := cells_at (w := w) hg' he
          rw [hl1] at hcell
          have hc := hcell i _ (getD_ints (by omega))
          rw [Addr.add_lit] at hc
          exact upTo_load hv' (run_loadVar_one hsz hagg hc) (lands_pure hR hA ⟨rfl, rfl⟩)
        · simp at h
      · simp at h
    · rename_i k m il
      obtain ⟨σ, ν, hR, hA⟩ := hRA
      obtain ⟨hone, hlen, ad, hv, M1, W1, hB, hsp, hc⟩ := evalA_rel hA hav
      simp only [List.cons.injEq, and_true] at hv
      cases hb : (aggB P t && Nat.beq n m) <;> simp only [hb, cond_true, cond_false, run_fail] at h
      simp only [Bool.and_eq_true] at hb
      simp only [run_ret] at h
      obtain ⟨rfl, _⟩ := h
      have hn := Nat.eq_of_beq_eq_true hb.2
      have hcc : ∀ j v, (il.map (Value.int k))[j]? = some v → w.cell? (ad.add j) = some v := by
        intro j v hv
        obtain ⟨hj, rfl⟩ := getElem?_map_int hv
        obtain ⟨q1, q2⟩ := hc j hj
        rw [← q2]
        have hab : (ad.add j).block = ad.block := by
          rcases ad with ⟨_, _, sp⟩
          cases sp with
          | none => rw [Addr.add_lit]
          | some _ => cases hsp
        have hlt : (ad.add j).block < W1.heap.size := World.block_lt_of_cell? _ _ q2
        rw [hab] at hlt
        exact World.cell?_of_block (by rw [hab]; exact (hR.base_now hB _ q1 hlt).2)
      have hrun := (run_loadVarB (P := P) (a := ad) (cs := il.map (Value.int k)) (by rw [List.length_map, hlen, ← hn]; exact hsz) hcc).1 hb.1
      exact upTo_load hv hrun (lands_pure hR hA ⟨_, rfl, _, [], by simp, ⟨hlen, rfl⟩, rfl⟩)
    · rename_i b i
      obtain ⟨l1, h⟩ := box_run h
      split at h
      · rename_i e k ll hbx
        obtain ⟨σ, ν, hR, hA⟩ := hRA
        obtain ⟨hone, hal, g, hg, hv⟩ := evalA_rel hA hav
        simp only [List.cons.injEq, and_true] at hv
        cases hagg : aggB P t <;> simp only [hagg, cond_true, cond_false, run_fail] at h
        have hr := ok1_run h
        subst hr
        have hb := hR.boxes b
        rw [hbx] at hb
        obtain ⟨n', xs, hown, hp, _⟩ := hb
        have hlt : i < ll.length := hps _ (by simp)
        obtain ⟨hxl, hxs⟩ := hp
        have hix : i < xs.length := by omega
        have hc := hown.cells hg i _ (List.getElem?_eq_getElem hix)
        rw [Addr.add_lit, Nat.zero_add] at hc
        obtain ⟨M1, W1, hB, hs⟩ := hxs i _ (List.getElem?_eq_getElem hix)
        refine upTo_load hv (run_loadVar_one hsz hagg hc) (lands_pure hR hA ⟨?_, _, rfl, M1, W1, hB, hs⟩)
        obtain ⟨ao, cap, e1, _⟩ := hs
        rw [e1]; rfl
      · exact sound_load t _ S r _ h hps M w0 a w hRA
    · exact sound_load t _ S r _ h hps M w0 a w hRA
theorem sound_store2 (t : TypeId) (x y : Operand) : Sound P D (oStore2 P D t x y) (fun ρ => do Instr.storeAt t (ρ x) (ρ y); pure .skip) := by
  intro S r l h hps M w0 a w hRA
  unfold oStore2 at h
  obtain ⟨av, l0, hav, h⟩ := rdA_run h
  split at h
  · rename_i b base N i
    obtain ⟨σ, ν, hR, hA⟩ := hRA
    obtain ⟨hone, hal, hiN, hv⟩ := evalA_rel hA hav
    simp only [List.cons.injEq, and_true] at hv
    have hv' : a.eval x = .pointer (some ⟨σ b, base + i, none⟩) := hv
    obtain ⟨ay, l1, hay, h⟩ := rdA_run h
    have hy := evalA_rel hA hay
    split at h
    · rename_i k lt v
      obtain ⟨l2, h⟩ := box_run h
      have hb := hR.boxes b
      split at h
      · rename_i ty ps hbx
        rw [hbx] at hb
        obtain ⟨cs, hg, hp⟩ := hb
        have hg' : w.heap[σ b]? = some (.cells cs ty (0, 0)) := hg
        split at h
        · rename_i p1 p2 p3 hsp
          split at h
          · rename_i il hil
            split at h
            · rename_i hsz
              simp only [run_ret] at h
              obtain ⟨rfl, _⟩ := h
              obtain ⟨c1, c2, c3, he, hl1, hl2, hr1, hr2, hr3⟩ := splitP_sound hsp hp
              have hc2 := allInts_rel hil hr2
              subst hc2
              rw [List.length_map] at hl2
              have hyv : a.eval y = .int k v := int_rel hy
              have hc1 : (a.eval y).cells.toList = [Value.int k v] := by rw [hyv]; rfl
              have hcs : cs.size = base + (N + c3.length) := by rw [← Array.length_toList, he, List.length_append, List.length_append, List.length_map, hl1, hl2]
              have hst := run_storeVarB (P := P) (w := w) (v := a.eval y) (n := 1) rfl hsz (by rw [hc1]; rfl) (by rw [hc1]; simp [Value.oneCell']) hg' (off := base + i) (by omega)
              have hset : cs.toList.take (base + i) ++ (a.eval y).cells.toList ++ cs.toList.drop (base + i + 1) = c1 ++ ((il.set i v).map (Value.int k) ++ c3) := by
                rw [hc1, he, ← hl1]
                have hi' : i < il.length := by omega
                rw [List.take_length_add_append, List.take_append_of_le_length (by rw [List.length_map]; omega), Nat.add_assoc, List.drop_length_add_append, List.drop_append_of_le_length (by rw [List.length_map]; omega),
                  ← take_map_set hi']
                simp only [List.append_assoc]
              rw [hset] at hst
              refine upTo_store hv' hst ?_
              unfold Lands
              simp only [bx_one]
              have hle : (S.env D M w0 σ ν).le ((S.upd (.box b (.fixed ty (p1 ++ (.arr k N (il.set i v) :: p3))))).env D M w0 σ ν) := env_upd_box (by trivial)
              refine ⟨σ, ν, hR.updBox (by trivial) (by rw [hbx]; rfl) ⟨_, setRow_heap w _ cs _ ty _ hg', ?_⟩ ?_, hA.mono hle rfl rfl, undef_rel⟩
              · have hq : PartsRel D (S.env D M w0 σ ν) (p1 ++ (.arr k N (il.set i v) :: p3)) (c1 ++ ((il.set i v).map (Value.int k) ++ c3)) := hr1.append ⟨_, _, rfl, ⟨by simpa using hl2, rfl⟩, hr3⟩
                simpa using hq.mono hle
              · rw [hbx]
                exact grownBy_setRow w _ _
            · simp at h
          · simp at h
        · simp at h
      · simp at h
    · simp at h
  · exact sound_store t x y S r _ h hps M w0 a w hRA
theorem sound_indexAddr2 (t : TypeId) (x y : Operand) : Sound P D (oIndexAddr2 P D t x y) (fun ρ => do pure (.value (← Instr.indexAt t (ρ x) (ρ y)))) := by
  intro S r l h hps M w0 a w hRA
  unfold oIndexAddr2 at h
  split at h
  · rename_i g
    obtain ⟨σ, ν, hR, hA⟩ := hRA
    split at h
    · rename_i k il hg
      split at h
      · rename_i n e ht
        split at h
        · rename_i hs
          cases hb : Nat.beq n il.length <;> simp only [hb, cond_true, cond_false, run_fail] at h
          obtain ⟨ay, l1, hay, h⟩ := rdA_run h
          have hy := evalA_rel hA hay
          split at h
          · rename_i kd lt i
            have hr := ok1_run h
            subst hr
            have h0 : 0 ≤ i := hps _ (by simp)
            have h1 : i < n := hps _ (by simp)
            have hn := Nat.eq_of_beq_eq_true hb
            obtain ⟨q1, q2, q3⟩ := hR.glob_now hg
            refine upTo_val (w' := w) (v := .pointer (some ⟨g, i.toNat, none⟩)) ?_ (lands_pure hR hA ⟨rfl, _, rfl, M, w0, .inl ⟨rfl, rfl⟩, rfl, q1, q2 _ (by omega)⟩)
            have hxe : a.eval (.global g) = .pointer (some ⟨g, 0, none⟩) := rfl
            rw [int_rel hy, hxe]
            have := run_indexAt_array (P := P) (b := g) (off := 0) (k := kd) (w := w) ht hs h0 h1
            simpa using this
          · simp at h
        · simp at h
      · simp at h
    · simp at h
  · rename_i x' _
    obtain ⟨av, bv, l0, hav, hbv, h⟩ := pair_run h
    split at h
    · rename_i b off kd lit i
      split at h
      · rename_i n e ht
        split at h
        · rename_i hs
          obtain ⟨l1, h⟩ := box_run h
          split at h
          · exact sound_indexAddr t _ y S r _ h hps M w0 a w hRA
          · rename_i ty ps _ _
            cases hla : (lit && !arrAt D ps off) <;> simp only [hla, cond_true, cond_false] at h
            case true => exact sound_indexAddr t _ y S r _ h hps M w0 a w hRA
            obtain ⟨σ, ν, hR, hA⟩ := hRA
            have hr := ok1_run h
            subst hr
            have h01 : 0 ≤ i ∧ i < n := by
              cases hd : (lit && (decide (0 ≤ i) && decide (i < n)))
              · simp only [hd, cond_false] at hps
                exact ⟨hps _ (by simp), hps _ (by simp)⟩
              · simp only [Bool.and_eq_true, decide_eq_true_eq] at hd
                exact hd.2
            obtain ⟨h0, h1⟩ := h01
            obtain ⟨hone, hal, hv⟩ := evalA_rel hA hav
            simp only [List.cons.injEq, and_true] at hv
            have hv' : a.eval x = .pointer (some ⟨σ b, off, none⟩) := hv
            refine upTo_val (w' := w) (v := .pointer (some ⟨σ b, off + i.toNat, none⟩)) ?_ (lands_pure hR hA ⟨rfl, hal, by omega, rfl⟩)
            rw [int_rel (evalA_rel hA hbv), hv']
            have := run_indexAt_array (P := P) (b := σ b) (off := off) (k := kd) (w := w) ht hs h0 h1
            simpa using this
          · simp at h
        · exact sound_indexAddr t _ y S r _ h hps M w0 a w hRA
      · exact sound_indexAddr t _ y S r _ h hps M w0 a w hRA
    · rename_i k il kd lt i
      obtain ⟨σ, ν, hR, hA⟩ := hRA
      obtain ⟨hone, u, hu, hsl⟩ := evalA_rel hA hav
      simp only [List.cons.injEq, and_true] at hu
      split at h
      · rename_i e ht
        split at h
        · rename_i hs
          have hr := ok1_run h
          subst hr
          have h0 : 0 ≤ i := hps _ (by simp)
          have h1 : i < il.length := hps _ (by simp)
          rw [← hu] at hsl
          obtain ⟨ao, cap, e1, _⟩ := id hsl
          rw [e1] at hsl
          obtain ⟨b, off, rfl, _, hm, hc⟩ := words_wref (i := i.toNat) hsl (by omega)
          refine upTo_val (w' := w) ?_ (lands_pure hR hA ⟨rfl, _, rfl, _, _, .inr ⟨rfl, rfl⟩, rfl, hm, hc⟩)
          rw [int_rel (evalA_rel hA hbv), e1]
          have := run_indexAt_slice (P := P) (b := b) (off := off) (cap := cap) (k := kd) (w := w) ht hs h0 h1
          simpa using this
        · simp at h
      · simp at h
    · rename_i b base N lo n cap kd lt i
      obtain ⟨σ, ν, hR, hA⟩ := hRA
      obtain ⟨hone, hal, hlo, hnc, hcm, hv⟩ := evalA_rel hA hav
      simp only [List.cons.injEq, and_true] at hv
      have hv' : a.eval x = .slice (some ⟨σ b, base + lo, none⟩) n cap := hv
      split at h
      · rename_i e ht
        split at h
        · rename_i hs
          have hr := ok1_run h
          subst hr
          have h0 : 0 ≤ i := hps _ (by simp)
          have h1 : i < n := hps _ (by simp)
          refine upTo_val (w' := w) (v := .pointer (some ⟨σ b, base + (lo + i.toNat), none⟩)) ?_ (lands_pure hR hA ⟨rfl, hal, by omega, rfl⟩)
          rw [int_rel (evalA_rel hA hbv), hv']
          have := run_indexAt_slice (P := P) (b := σ b) (off := base + lo) (cap := cap) (k := kd) (w := w) ht hs h0 h1
          simpa [Nat.add_assoc] using this
        · simp at h
      · simp at h
    · rename_i b kd lt i
      obtain ⟨l1, h⟩ := box_run h
      split at h
      · rename_i e' k ll hbx
        obtain ⟨σ, ν, hR, hA⟩ := hRA
        obtain ⟨hone, hal, h1c, hv⟩ := evalA_rel hA hav
        simp only [List.cons.injEq, and_true] at hv
        have hv' : a.eval x = ν b := hv
        split at h
        · rename_i e ht
          split at h
          · rename_i hs
            have hr := ok1_run h
            subst hr
            have h0 : 0 ≤ i := hps _ (by simp)
            have h1 : i < ll.length := hps _ (by simp)
            have hb := hR.boxes b
            rw [hbx] at hb
            obtain ⟨n', xs, hown, hp, _⟩ := hb
            have hown' : w.ownsL 0 e' 1 (ν b) n' xs := hown
            obtain ⟨hxl, _⟩ := hp
            have hn' : xs.length = n' := by have := hown'.1; simpa using this
            rcases hown'.2 with ⟨hn, hz⟩ | ⟨g, cap, cur, hνe, _⟩
            · omega
            · refine upTo_val (w' := w) (v := .pointer (some ⟨g, i.toNat, none⟩)) ?_ (lands_pure hR hA ⟨rfl, hal, g, by show (ν b).ownBlock = _; rw [hνe]; rfl, rfl⟩)
              rw [int_rel (evalA_rel hA hbv), hv', hνe]
              have := run_indexAt_slice (P := P) (b := g) (off := 0) (cap := cap) (n := n') (k := kd) (w := w) ht hs h0 (by omega)
              simpa using this
          · simp at h
        · simp at h
      · exact sound_indexAddr t _ y S r _ h hps M w0 a w hRA
    · exact sound_indexAddr t _ y S r _ h hps M w0 a w hRA
theorem sound_slice2 (Γ : Gam D) (nid : Nat) (dst : Option Tmp) (t : TypeId) (x : Operand) (lo hi : Option Operand) : Sound P D (oSlice2 P D Γ nid dst t x lo hi) (fun ρ => do pure (.value (← Instr.sliceAt t (ρ x) (lo.map ρ) (hi.map ρ) none))) := fun _ _ _ h => (run_fail.1 h).elim
end
end Go.Abs
namespace Go.Abs
open Go.RowKit
section
variable {P : Program} {D : Dom}
theorem sound_arrPtr (t : TypeId) (x : Operand) : Sound P D (oArrPtr P D t x) (fun ρ => do pure (.value (← Instr.arrayAt t (ρ x)))) := fun _ _ _ h => (run_fail.1 h).elim
theorem sound_copy2 (x y : Operand) (t u ty : TypeId) : Sound P D (oCopy2 P D x y t) (fun ρ => valOf (Builtin.copy_ #[t, u] ty #[ρ x, ρ y])) := fun _ _ _ h => (run_fail.1 h).elim
theorem sound_len2 (x : Operand) (t ty : TypeId) : Sound P D (oLen2 P D x t) (fun ρ => valOf (Builtin.len_ #[t] ty #[ρ x])) := by
  intro S r l h hps M w0 a w hRA
  unfold oLen2 at h
  obtain ⟨av, l0, hav, h⟩ := rdA_run h
  split at h
  · obtain ⟨σ, ν, hR, hA⟩ := hRA
    obtain ⟨hone, u, hu, ao, cap, e1, _⟩ := evalA_rel hA hav
    simp only [List.cons.injEq, and_true] at hu
    split at h
    · rename_i e ht
      have hr := ok1_run h
      subst hr
      refine upTo_val (w' := w) ?_ (lands_pure hR hA rel_int)
      rw [hu, e1]
      exact run_len_slice ht
    · simp at h
  · obtain ⟨σ, ν, hR, hA⟩ := hRA
    obtain ⟨hone, hal, _, _, _, hv⟩ := evalA_rel hA hav
    simp only [List.cons.injEq, and_true] at hv
    split at h
    · rename_i e ht
      have hr := ok1_run h
      subst hr
      refine upTo_val (w' := w) ?_ (lands_pure hR hA rel_int)
      rw [hv]
      exact run_len_slice ht
    · simp at h
  · rename_i b
    obtain ⟨l1, h⟩ := box_run h
    split at h
    · rename_i e' k ll hbx
      obtain ⟨σ, ν, hR, hA⟩ := hRA
      obtain ⟨hone, hal, h1c, hv⟩ := evalA_rel hA hav
      simp only [List.cons.injEq, and_true] at hv
      have hv' : a.eval x = ν b := hv
      split at h
      · rename_i e ht
        have hr := ok1_run h
        subst hr
        have hb := hR.boxes b
        rw [hbx] at hb
        obtain ⟨n', xs, hown, hp, _⟩ := hb
        have hown' : w.ownsL 0 e' 1 (ν b) n' xs := hown
        have hn' : xs.length = n' := by have := hown'.1; simpa using this
        refine upTo_val (w' := w) ?_ (lands_pure hR hA rel_int)
        rw [← hp.1, hn', hv']
        rcases hown'.2 with ⟨hνe, h0⟩ | ⟨g, cap, cur, hνe, _⟩
        · rw [hνe, h0]; exact run_len_slice ht
        · rw [hνe]; exact run_len_slice ht
      · simp at h
    · exact sound_len x t ty S r _ h hps M w0 a w hRA
  · exact sound_len x t ty S r _ h hps M w0 a w hRA
theorem zeroSl_spec {e : TypeId} (h : zeroSl P e = true) : ∃ i, P.info? e = some i ∧ i.zero = some (.slice none 0 0) := by
  unfold zeroSl at h
  split at h
  · rename_i hz
    exact Option.bind_eq_some_iff.1 hz
  · cases h
def WsRel (E : Env) (k : IntKind) (ll : List (List Int)) (vs : List Value) : Prop :=
  vs.length = ll.length ∧ ∀ (i : Nat) u, vs[i]? = some u → ∃ M W, Base E M W ∧ SlRel M W k (ll.getD i []) u
theorem WsRel.one {E : Env} {k : IntKind} {ll : List (List Int)} {vs : List Value} (h : WsRel E k ll vs) : ∀ v ∈ vs, v.oneCell' = true := by
  intro v hv
  obtain ⟨i, hi⟩ := List.mem_iff_getElem?.1 hv
  obtain ⟨_, _, _, ao, cap, e, _⟩ := h.2 i v hi
  rw [e]; rfl
theorem WsRel.cons {E : Env} {k : IntKind} {l : List Int} {ll : List (List Int)} {v : Value} {vs : List Value} (h : ∃ M W, Base E M W ∧ SlRel M W k l v) (hs : WsRel E k ll vs) : WsRel E k (l :: ll) (v :: vs) := by
  refine ⟨by simp [hs.1], fun i u hu => ?_⟩
  cases i with
  | zero => simp only [List.getElem?_cons_zero, Option.some.injEq] at hu; subst hu; exact h
  | succ i => exact hs.2 i u (by simpa using hu)
theorem WsRel.append {E : Env} {k : IntKind} {l1 l2 : List (List Int)} {v1 v2 : List Value} (h1 : WsRel E k l1 v1) (h2 : WsRel E k l2 v2) : WsRel E k (l1 ++ l2) (v1 ++ v2) := by
  refine ⟨by simp [h1.1, h2.1], fun i u hu => ?_⟩
  by_cases hi : i < v1.length
  · rw [List.getElem?_append_left hi] at hu
    have := h1.2 i u hu
    rwa [List.getD_eq_getElem?_getD, List.getElem?_append_left (by rw [← h1.1]; exact hi), ← List.getD_eq_getElem?_getD]
  · rw [List.getElem?_append_right (by omega)] at hu
    have := h2.2 _ u hu
    rwa [List.getD_eq_getElem?_getD, List.getElem?_append_right (by rw [← h1.1]; omega), ← h1.1, ← List.getD_eq_getElem?_getD]
theorem wordsOf_rel {E : Env} {k : IntKind} : ∀ {i : Nat} {js : List Nat} {as : List (AV D.τ)} {ll : List (List Int)} {vs : List Value}, wordsOf D k i js as = some ll → AVsRel E as vs →
    WsRel E k ll vs ∧ js = (List.range ll.length).map (i + ·)
  | i, [], [], ll, vs, h, hv => by
    simp [wordsOf] at h
    subst h
    cases hv
    exact ⟨⟨rfl, fun i u h => by simp at h⟩, by simp⟩
  | i, j :: js, a :: as, ll, vs, h, hv => by
    obtain ⟨v, us, rfl, hv1, hv2⟩ := hv
    have fin : ∀ {l : List Int} {ll' : List (List Int)}, Nat.beq i j = true → (∃ M W, Base E M W ∧ SlRel M W k l v) → wordsOf D k (i + 1) js as = some ll' → WsRel E k (l :: ll') (v :: us) ∧ j :: js = (List.range (l :: ll').length).map (i + ·) := by
      intro l ll' hb hl hll
      obtain ⟨e1, e2⟩ := wordsOf_rel hll hv2
      refine ⟨e1.cons hl, ?_⟩
      have hij := Nat.eq_of_beq_eq_true hb
      subst hij
      rw [e2, List.length_cons, List.range_succ_eq_map]
      simp only [List.map_cons, List.map_map, Nat.add_zero, List.cons.injEq, true_and]
      apply List.map_congr_left
      intro x _
      show i + 1 + x = i + (x + 1)
      omega
    unfold wordsOf at h
    split at h
    · rename_i he _; cases he
    · rename_i i' j' js' p as' he1 he2
      simp only [List.cons.injEq] at he1 he2
      obtain ⟨rfl, rfl⟩ := he1
      obtain ⟨rfl, rfl⟩ := he2
      generalize hb : Nat.beq _ _ = bb at h
      cases bb <;> simp only [cond_true, cond_false] at h
      · cases h
      · split at h
        · split at h
          · rename_i hk
            subst hk
            obtain ⟨l', hl', rfl⟩ := Option.map_eq_some_iff.1 h
            obtain ⟨_, u, hu, hM⟩ := hv1
            simp only [List.cons.injEq, and_true] at hu
            exact fin hb (by rw [hu]; exact hM) hl'
          · cases h
        · split at h
          · rename_i hk
            subst hk
            obtain ⟨l', hl', rfl⟩ := Option.map_eq_some_iff.1 h
            obtain ⟨_, u, hu, hs⟩ := hv1
            simp only [List.cons.injEq, and_true] at hu
            exact fin hb ⟨_, _, .inr ⟨rfl, rfl⟩, by rw [hu]; exact hs⟩ hl'
          · cases h
        · obtain ⟨l', hl', rfl⟩ := Option.map_eq_some_iff.1 h
          obtain ⟨_, hu⟩ := hv1
          simp only [PartRel, List.cons.injEq, and_true] at hu
          exact fin hb ⟨_, _, .inl ⟨rfl, rfl⟩, by rw [hu]; exact ⟨none, 0, rfl, by simp, Nat.zero_le _, fun _ => rfl, fun i hi => by simp at hi⟩⟩ hl'
        · cases h
    · cases h
  | _, [], _ :: _, _, _, h, _ => by simp [wordsOf] at h
  | _, _ :: _, [], _, _, h, _ => by simp [wordsOf] at h
theorem one_cells {v : Value} (h : v.oneCell' = true) : v.cells = #[v] := by cases v <;> simp_all [Value.cells, Value.oneCell']
theorem fill_seqV : ∀ (l : List Value) (m : Nat) (cs : Array Value), cs.size = m + l.length → (∀ v ∈ l, v.oneCell' = true) →
    Instr.fill (fun i => some (i * 1, 1)) cs (((List.range l.length).map (m + ·)).zip l) = some (cs.toList.take m ++ l).toArray
  | [], m, cs, h, _ => by simp [Instr.fill]; rw [List.take_of_length_le (by simp at h ⊢; omega)]
  | v :: l, m, cs, h, h1 => by
    simp only [List.length_cons] at h
    have ih := fill_seqV l (m + 1) (cs.setIfInBounds m v) (by simp; omega) (fun u hu => h1 u (List.mem_cons_of_mem _ hu))
    rw [List.length_cons, List.range_succ_eq_map]
    simp only [List.map_cons, List.map_map, Nat.add_zero, List.zip_cons_cons, Instr.fill, Nat.mul_one]
    have hc : v.cells = #[v] := one_cells (h1 v (by simp))
    rw [hc]
    have hle : ¬ ((#[v] : Array Value).size ≠ 1 ∨ m + (#[v] : Array Value).size > cs.size) := by simp; omega
    rw [if_neg (by simpa using hle)]
    have e : ((#[v] : Array Value).zipIdx.foldl (fun cs (x : Value × Nat) => cs.setIfInBounds (m + x.2) x.1) cs) = cs.setIfInBounds m v := by
      rw [← Array.foldl_toList, Array.toList_zipIdx]; rfl
    have e2 : (List.map ((fun x => m + x) ∘ Nat.succ) (List.range l.length)) = (List.range l.length).map (m + 1 + ·) := by
      apply List.map_congr_left
      intro x _
      show m + (x + 1) = m + 1 + x
      omega
    rw [e2]
    simp only [Nat.mul_one] at ih ⊢
    rw [e, ih]
    congr 1
    apply congrArg List.toArray
    rw [Array.toList_setIfInBounds, List.take_set, List.set_eq_take_append_cons_drop, if_pos (by simp; omega)]
    simp [List.take_take]
theorem run_buildSliceV {t e : TypeId} {parts : Array (Nat × Value)} {l : List Value} {w : World} (ht : P.underlying t = some (.slice e)) (hs : szOf P e = some 1) (hz : zeroSl P e = true) (hl : l.length ≤ 16777216)
    (hf : ∀ Z : Array Value, Z.size = l.length → Instr.fill (fun i => some (i * 1, 1)) Z parts.toList = some l.toArray) :
    (Instr.buildSlice t l.length parts).run P w = .ok (.slice (some ⟨w.heap.size, 0, none⟩) l.length l.length) (w.alloc (.cells l.toArray e)) := by
  obtain ⟨i, hi, hiz⟩ := zeroSl_spec hz
  have hle : ¬ (16777216 < l.length) := by omega
  unfold Instr.buildSlice
  by_cases h0 : l.length = 0
  · simp only [Sem.run_bind, run_underlying ht, Result.andThen_ok, run_sizeOfB hs, Nat.mul_one, h0]
    simp only [Nat.mul_one] at hf
    simp
    rw [hf _ (by simp [h0])]
    simp [newRow]
  · simp only [Sem.run_bind, run_underlying ht, Result.andThen_ok, run_sizeOfB hs, Nat.mul_one]
    simp only [Nat.mul_one] at hf
    simp [hle, h0, zeroValue, typeInfo, hi, hiz, Value.cells]
    rw [hf _ (by simp)]
    simp [newRow]
theorem sound_buildSlice2 (nid : Nat) (t : TypeId) (len : Nat) (parts : Array (Nat × Operand)) : Sound P D (oBuildSlice2 P D nid t len parts.toList) (fun ρ => do pure (.value (← Instr.buildSlice t len (parts.map fun (i, x) => (i, ρ x))))) := by
  intro S r l h hps M w0 a w hRA
  unfold oBuildSlice2 at h
  split at h
  · rename_i e ht
    split at h
    · rename_i k hk
      split at h
      · rename_i hs
        obtain ⟨σ, ν, hR, hA⟩ := hRA
        obtain ⟨as, l1, has, h⟩ := rdAs_run h
        have hvs := evalAs_rel hA has
        obtain ⟨l2, h⟩ := box_run h
        split at h
        · rename_i hun
          split at h
          · rename_i ll hll
            generalize hb : (Nat.beq ll.length len && (Nat.ble len 16777216 && zeroSl P e)) = bb at h
            cases bb <;> simp only [cond_true, cond_false, run_fail] at h
            simp only [run_ret] at h
            obtain ⟨rfl, _⟩ := h
            simp only [Bool.and_eq_true] at hb
            have h1 := Nat.eq_of_beq_eq_true hb.1
            have h2 := Nat.le_of_ble_eq_true hb.2.1
            obtain ⟨e1, e2⟩ := wordsOf_rel hll hvs
            generalize hvse : ((parts.toList.map (·.2)).map a.eval) = vs at hvs e1
            have hvl : vs.length = len := by rw [e1.1]; exact h1
            subst hvl
            have hparts : (parts.map fun (x : Nat × Operand) => (x.1, a.eval x.2)).toList = ((List.range vs.length).map (0 + ·)).zip vs := by
              rw [← h1, ← e2, ← hvse, Array.toList_map]
              generalize parts.toList = L
              induction L with
              | nil => rfl
              | cons p L ih => simp [ih]
            have hrun := run_buildSliceV (P := P) (w := w) (parts := parts.map fun (x : Nat × Operand) => (x.1, a.eval x.2)) ht hs hb.2.2 h2 (by
              intro Z hZ
              rw [hparts, fill_seqV vs 0 Z (by omega) e1.one]
              simp)
            refine upTo_val hrun (lands_dyn (old := []) (row := none) (xs := vs) (n := vs.length) hR hA hun ?_ ⟨e1.1, e1.2⟩ rfl (World.grownBy_alloc _ _ _) (by simp) (fun g hg => .inl ?_))
            · refine ⟨by simp, .inr ⟨w.heap.size, vs.length, _, rfl, Nat.zero_le _, Go.heap_alloc_new w _, Nat.le_refl _, by unfold maxLen; omega, by simp, ?_⟩⟩
              rw [Nat.mul_one]
              exact List.take_of_length_le (by simp)
            · simp [Value.ownBlock] at hg; omega
          · simp at h
        · simp at h
      · simp at h
    · exact sound_buildSlice nid t len parts S r _ h hps M w0 a w hRA
  · simp at h
theorem append_runV {t e ty : TypeId} {w : World} {v : Value} {n : Nat} {xs us : List Value} {ao : Option Addr} {cap' : Nat} (ht : P.underlying t = some (.slice e)) (hs : szOf P e = some 1) (hz : zeroSl P e = true)
    (hown : w.ownsL 0 e 1 v n xs) (hone : ∀ u ∈ us, u.oneCell' = true) (hnil : ao = none → us = [] ∧ cap' = 0) (hnews : ∀ ad, ao = some ad → ∀ j u, us[j]? = some u → w.cell? (ad.add j) = some u) (h63 : n + us.length ≤ 9223372036854775807) (hb : (n + us.length) * bytesOfT P e ≤ 140737488355328) :
    ∃ v' w', (Builtin.append_ #[t, t] ty #[v, .slice ao us.length cap']).run P w = .ok v' w' ∧ w'.ownsL 0 e 1 v' (n + us.length) (xs ++ us) ∧ w.grownBy w' v.ownBlock ∧
      ∀ g, v'.ownBlock = some g → w.heap.size ≤ g ∨ v.ownBlock = some g := by
  obtain ⟨i, hi, hiz⟩ := zeroSl_spec hz
  obtain ⟨i', d, hi', hsz, hd⟩ := szOf_spec hs
  rw [hi] at hi'
  simp only [Option.some.injEq] at hi'
  subst hi'
  have hby : bytesOfT P e = i.bytes := by simp [bytesOfT, hi]
  rw [hby] at hb
  have hm : n + us.length ≤ maxLen := by unfold maxLen; omega
  cases ao with
  | none =>
    obtain ⟨hl, hc⟩ := hnil rfl
    subst hl
    subst hc
    have hr := run_append_ownedL_none (P := P) w 0 t ty e i 1 ht hi v n xs hown
    exact ⟨v, w, hr, by simpa using hown, World.grownBy.refl _ _, fun g hg => .inr hg⟩
  | some a =>
    have hln : us.length = us.length * 1 := by simp
    have hnews := hnews a rfl
    rcases hown.2 with ⟨rfl, hn0⟩ | ⟨g, cap, cur, rfl, _, hcur, hnc, hcm, hcs, htk⟩
    · have hx : xs = [] := List.eq_nil_of_length_eq_zero (by rw [hown.1, hn0])
      subst hn0
      subst hx
      obtain ⟨v', w', hr, ho, hg, _⟩ := run_append_ownL (P := P) w w.heap.size t ty e i _ 1 i.bytes ht hi hiz hsz rfl rfl (by omega) _ 0 [] (World.ownsL_nil w w.heap.size e 1) a us.length cap' _ hln hnews hone hm hb (Nat.le_refl _)
      exact ⟨v', w', hr, ownsL_base ho (Nat.zero_le _), hg, fun g hgo => .inl (ho.lt g hgo).1⟩
    · obtain ⟨v', w', hr, ho, hg, _⟩ := run_append_ownL (P := P) w 0 t ty e i _ 1 i.bytes ht hi hiz hsz rfl rfl (by omega) _ n xs hown a us.length cap' _ hln hnews hone hm hb (Nat.zero_le _)
      refine ⟨v', w', hr, ho, hg, fun g' hgo => ?_⟩
      by_cases hroom : n + us.length ≤ cap
      · obtain ⟨w2, hr2, _⟩ := run_append_fitsL (P := P) w 0 t ty e i 1 ht hi hsz g n cap xs hown a us.length cap' _ hln hnews hone hroom
        rw [hr] at hr2
        simp only [Result.ok.injEq] at hr2
        rw [hr2.1] at hgo
        exact .inr (by simpa [Value.ownBlock] using hgo)
      · have holds : ∀ j u, xs[j]? = some u → w.cell? ((⟨g, 0, none⟩ : Addr).add j) = some u := hown.cells (g := g) rfl
        have hr2 := run_append_grow (P := P) w t ty e i _ ht hi hiz ⟨g, 0, none⟩ n cap xs (by rw [hsz]; exact hown.1) holds a us.length cap' _ (by rw [hsz]; exact hln) hnews (by omega) (by omega) (growslice_fits (by omega) hb)
        rw [hr] at hr2
        simp only [Result.ok.injEq] at hr2
        rw [hr2.1] at hgo
        simp [Value.ownBlock] at hgo
        exact .inl (by omega)
end
end Go.Abs

/- Queue: QueueRuns, the plain law. -/
import Derived.Test.YtglemaieddgjcaaQ12
namespace Go.Num
open Go.Abs Go.Proofs Go.Shelf

/-- An entry's event. -/
def evR (r : Rec) : Rec := mkV (recI r 0) (recI r 1) (recW r 2)

/-- The queue and the document's list: entries in the order in which they were put. -/
structure Twn (ll m : List Rec) (T : Int) : Prop where
  wel : Wel ll T
  ord : ∃ es : List Rec, es.Perm ll ∧ m = es.map evR ∧ es.Pairwise fun r s => recI r 3 < recI s 3

theorem Twn.len {ll m : List Rec} {T : Int} (h : Twn ll m T) : m.length = ll.length := by
  obtain ⟨es, h1, rfl, _⟩ := h.ord
  rw [List.length_map, h1.length_eq]

theorem Twn.all {ll m : List Rec} {T : Int} (h : Twn ll m T) : EvAll m := by
  obtain ⟨es, h1, rfl, _⟩ := h.ord
  intro r hr
  obtain ⟨x, _, rfl⟩ := List.mem_map.1 hr
  exact ⟨_, _, _, rfl⟩

theorem Twn.put {ll m : List Rec} {T a b : Int} {d : List Int} (h : Twn ll m T) (hc : okA a ll) (hd : d.length ≤ 281474976710656) : Twn (pushL ll (mkE a b d T)) (m ++ [mkV a b d]) (T + 1) := by
  obtain ⟨es, h1, rfl, h3⟩ := h.ord
  refine ⟨(h.wel.push hc.1.2 hd hc.2).1, es ++ [mkE a b d T], ?_, ?_, ?_⟩
  · exact (h1.append_right _).trans (push_heap h.wel.heap _).2.symm
  · rw [List.map_append]
    rfl
  · rw [List.pairwise_append]
    refine ⟨h3, List.pairwise_singleton _ _, fun r hr s hs => ?_⟩
    rw [List.mem_singleton] at hs
    subst hs
    exact (h.wel.each r (h1.mem_iff.1 hr)).1

theorem keep_map (w : Int) (es : List Rec) : keepW w (es.map evR) = (keepW w es).map evR := by
  unfold keepW
  rw [List.filter_map]
  rfl

theorem Twn.forget {ll m : List Rec} {T : Int} (h : Twn ll m T) (w : Int) : Twn (initL (keepW w ll)) (keepW w m) T := by
  obtain ⟨es, h1, rfl, h3⟩ := h.ord
  have hi := h.wel.init (keepW w ll) (fun r hr => (List.mem_filter.1 hr).1) (List.length_filter_le ..)
  exact ⟨hi.1, keepW w es, (h1.filter _).trans hi.2.symm, keep_map w es, h3.sublist List.filter_sublist⟩

theorem map_getD {es : List Rec} {i : Nat} (hi : i < es.length) : (es.map evR).getD i [] = evR (es.getD i []) := by
  rw [List.getD_eq_getElem?_getD, List.getD_eq_getElem?_getD, List.getElem?_map, List.getElem?_eq_getElem hi]
  rfl

theorem noDue_min {ll : List Rec} {T m : Int} (h : Wel ll T) (hn : noDueB ll m = true) : ∀ r ∈ ll, m < recI r 0 := by
  intro r hr
  have h0 : 0 < ll.length := List.length_pos_of_mem hr
  have h1 := (noDue_iff.1 hn).resolve_left (fun he => by rw [he] at hr; cases hr)
  obtain ⟨i, hil, rfl⟩ := List.mem_iff_getElem.1 hr
  have hroot := heap_root h.heap i hil
  have e : ll.getD i [] = ll[i] := by rw [List.getD_eq_getElem?_getD, List.getElem?_eq_getElem hil]; rfl
  rw [e] at hroot
  unfold leR at hroot
  omega

/-- If nothing is due there is none. -/
theorem Twn.none {ll m : List Rec} {T now : Int} (h : Twn ll m T) (hn : noDueB ll now = true) : bF m now m.length < 0 := by
  have hlen := h.len
  obtain ⟨es, h1, rfl, h3⟩ := h.ord
  rcases bF_inv (es.map evR) now (es.map evR).length with ⟨h4, _⟩ | ⟨h4, h5, h6, _⟩
  · omega
  · have hle : (es.map evR).length = es.length := List.length_map ..
    have hi : (bF (es.map evR) now (es.map evR).length).toNat < es.length := by omega
    rw [map_getD hi] at h6
    have := noDue_min h.wel hn _ (h1.mem_iff.1 (getD_mem hi))
    have h7 : recI (evR (es.getD (bF (es.map evR) now (es.map evR).length).toNat [])) 0 = recI (es.getD (bF (es.map evR) now (es.map evR).length).toNat []) 0 := rfl
    omega

theorem erase_perm {es : List Rec} {i : Nat} (h : i < es.length) : (es[i] :: es.eraseIdx i).Perm es := by
  rw [List.eraseIdx_eq_take_drop_succ]
  have e : es = es.take i ++ es[i] :: es.drop (i + 1) := by rw [← List.drop_eq_getElem_cons h, List.take_append_drop]
  have hp : (es.take i ++ es[i] :: es.drop (i + 1)).Perm (es[i] :: (es.take i ++ es.drop (i + 1))) := List.perm_middle
  rw [← e] at hp
  exact hp.symm
theorem erase_map (es : List Rec) (i : Nat) : (es.map evR).eraseIdx i = (es.eraseIdx i).map evR := by
  rw [List.eraseIdx_eq_take_drop_succ, List.eraseIdx_eq_take_drop_succ, List.map_append, List.map_take, List.map_drop]
theorem bne_len {a b : List Rec} (h : b.length = a.length) : ((a.length : Int) != (b.length : Int)) = false := by rw [h]; exact bne_self_eq_false _

/-- If something is due, both take the same. -/
theorem Twn.due {ll m : List Rec} {T now : Int} (h : Twn ll m T) (hn : noDueB ll now = false) : 0 ≤ bF m now m.length ∧ (recI (popE ll) 0 = recI (m.getD (bF m now m.length).toNat []) 0 ∧ recI (popE ll) 1 = recI (m.getD (bF m now m.length).toNat []) 1 ∧ recW (popE ll) 2 = recW (m.getD (bF m now m.length).toNat []) 2) ∧ Twn (popL ll) (m.eraseIdx (bF m now m.length).toNat) T := by
  obtain ⟨h0, hd⟩ := due_is hn
  obtain ⟨a1, a2, a3, a4, a5, a6⟩ := h.wel.pop h0
  obtain ⟨es, h1, rfl, h3⟩ := h.ord
  have hle : (es.map evR).length = es.length := List.length_map ..
  have hat : ∀ i, i < es.length → recI ((es.map evR).getD i []) 0 = recI (es.getD i []) 0 := fun i hi => by rw [map_getD hi]; rfl
  obtain ⟨j, hj, ej⟩ := List.mem_iff_getElem.1 (h1.mem_iff.2 a3)
  have ej' : es.getD j [] = popE ll := by rw [List.getD_eq_getElem?_getD, List.getElem?_eq_getElem hj]; exact ej
  have hbf := bF_inv (es.map evR) now (es.map evR).length
  generalize hB : bF (es.map evR) now (es.map evR).length = B at hbf ⊢
  have hroot : recI (popE ll) 0 ≤ now := by rw [a4]; exact hd
  rcases hbf with ⟨h4, h5⟩ | ⟨h4, h5, h6, h7⟩
  · have := h5 j (by omega)
    rw [hat j hj, ej'] at this
    omega
  · have hb : B.toNat < es.length := by omega
    rw [hat _ hb] at h6
    have hmin := a6 _ (h1.mem_iff.1 (getD_mem hb))
    have hjB := h7 j (by omega)
    rw [hat _ hb, hat j hj, ej'] at hjB
    have heq : j = B.toNat := by
      rcases Nat.lt_trichotomy j B.toNat with hlt | he | hgt
      · have := hjB.2 (by omega)
        unfold leR at hmin
        omega
      · exact he
      · have ht := (List.pairwise_iff_getElem.1 h3) B.toNat j hb hj hgt
        have e1 : es[B.toNat] = es.getD B.toNat [] := by rw [List.getD_eq_getElem?_getD, List.getElem?_eq_getElem hb]; rfl
        rw [ej, e1] at ht
        unfold leR at hmin
        omega
    subst heq
    refine ⟨h4, ?_, a1, es.eraseIdx B.toNat, ?_, ?_, ?_⟩
    · rw [map_getD hb, ej']
      exact ⟨rfl, rfl, rfl⟩
    · have hp := erase_perm (es := es) (i := B.toNat) hb
      rw [ej] at hp
      exact (List.perm_cons _).1 (hp.trans (h1.trans a2.symm))
    · exact erase_map ..
    · exact h3.sublist (List.eraseIdx_sublist ..)

/-! The walk's rounds -/

abbrev QS := List Rec × Int × List Rec × Nat
def qrNx (sc : List Rec) (s : QS) : Option QS :=
  if s.2.2.2 < sc.length ∧ s.2.2.2 < 200 then
    if recI (sc.getD s.2.2.2 []) 0 = 0 then
      if okA (recI (sc.getD s.2.2.2 []) 2) s.1 then some (pushL s.1 (mkE (recI (sc.getD s.2.2.2 []) 2) (recI (sc.getD s.2.2.2 []) 3) (recW (sc.getD s.2.2.2 []) 4) s.2.1), s.2.1 + 1, s.2.2.1 ++ [mkV (recI (sc.getD s.2.2.2 []) 2) (recI (sc.getD s.2.2.2 []) 3) (recW (sc.getD s.2.2.2 []) 4)], s.2.2.2 + 1)
      else some (s.1, s.2.1, s.2.2.1, s.2.2.2 + 1)
    else if recI (sc.getD s.2.2.2 []) 0 = 1 then
      if noDueB s.1 (recI (sc.getD s.2.2.2 []) 1) then some (s.1, s.2.1, s.2.2.1, s.2.2.2 + 1)
      else some (popL s.1, s.2.1, s.2.2.1.eraseIdx (bF s.2.2.1 (recI (sc.getD s.2.2.2 []) 1) s.2.2.1.length).toNat, s.2.2.2 + 1)
    else if recI (sc.getD s.2.2.2 []) 0 = 2 then some (initL (keepW (recI (sc.getD s.2.2.2 []) 1) s.1), s.2.1, keepW (recI (sc.getD s.2.2.2 []) 1) s.2.2.1, s.2.2.2 + 1)
    else some (s.1, s.2.1, s.2.2.1, s.2.2.2 + 1)
  else none

def xoL (l : List Int) : Nat → List Int
  | 0 => l
  | j + 1 => (xoL l j).set j (bitsOf .xor .u8 ((xoL l j).getD j 0) 255)
theorem xoL_len (l : List Int) : ∀ j, (xoL l j).length = l.length
  | 0 => rfl
  | j + 1 => by rw [xoL, List.length_set, xoL_len l j]

theorem qx_loop (sc ll : List Rec) (n : Int) (m : List Rec) (i a b : Int) {l : List Int} (hl : l.length ≤ 281474976710656) : SumOK Try.prog D0 (bodyN Try.f4 1) (loopL D0 (qxSn sc ll n m i a b l (0 : Nat)) (.exit 3) (qrSn sc ll n m i)) := by
  refine sum_loop gam_nil mixed (fun j => qxSn sc ll n m i a b (xoL l j) j) l.length rfl (fun j hj => ?_) ?_
  · have h := xoL_len l j
    have h2 := xoL_len l (j + 1)
    exact ⟨_, _, _, qx_round sc ll n m i a b _ _ j _ (decide_eq_true (by omega)) (by omega) (by omega) (by omega) ⟨by omega, by omega⟩ (by omega) rfl rfl⟩
  · have h := xoL_len l l.length
    exact ⟨_, _, _, qx_exit sc ll n m i a b _ _ (decide_eq_false (by omega))⟩

def QInv (s : QS) : Prop := Twn s.1 s.2.2.1 s.2.1 ∧ 0 ≤ s.2.1 ∧ s.2.1 ≤ s.2.2.2

theorem qr_step {sc : List Rec} (hd : ∀ r ∈ sc, (recW r 4).length ≤ 140737488351232) {x y : QS} (hx : QInv x) (hn : qrNx sc x = some y) : QInv y ∧ 200 - y.2.2.2 < 200 - x.2.2.2 ∧ ∃ Γ fuel nid ds ps, GamOK Try.prog D0 Γ ∧ stepPs Try.prog D0 Γ fuel (bodyN Try.f4 0) nid (qrSn sc x.1 x.2.1 x.2.2.1 x.2.2.2).st ds .normal (qrSn sc y.1 y.2.1 y.2.2.1 y.2.2.2) = some ps ∧ AllQ ps := by
  obtain ⟨ll, T, m, k⟩ := x
  obtain ⟨hT, hT0, hT1⟩ := hx
  unfold qrNx at hn
  simp only at hn hT hT0 hT1
  split at hn
  · rename_i hk
    have hlen := hT.len
    have hall := hT.all
    have hf := hT.wel.few
    have hdk := hd _ (getD_mem hk.1)
    have c1 : decide ((k : Int) < sc.length) = true := decide_eq_true (by omega)
    have c2 : decide ((k : Int) < 200) = true := decide_eq_true (by omega)
    have i1 : InI64 ((k : Int) + 1) := ⟨by omega, by omega⟩
    have hl0 : (((ll.length : Nat) : Int) != (m.length : Int)) = false := by rw [hlen]; exact bne_self_eq_false _
    split at hn
    · rename_i hk0
      have d0 : (recI (sc.getD k []) 0 == 0) = true := by rw [hk0]; rfl
      split at hn
      · rename_i hc
        cases hn
        have hT' := hT.put (b := recI (sc.getD k []) 3) (d := recW (sc.getD k []) 4) hc (by omega)
        have hc2 : okA (recI (sc.getD k []) 2) m := ⟨hc.1, by have := hc.2; omega⟩
        refine ⟨⟨hT', by simp only; omega, by simp only; omega⟩, by simp only; omega, ?_⟩
        exact ⟨_, _, _, _, (qr_put sc ll _ T _ m _ k _ _ _ _ c1 c2 (by omega) (by omega) d0 (by rw [Int.toNat_natCast]; show (recW (sc.getD k []) 4).length ≤ _; omega) (by rw [Int.toNat_natCast]; exact hc2) (by rw [Int.toNat_natCast]; show (recW (sc.getD k []) 4).length ≤ _; omega) hc.1.1 hc.1.2 hc.2 hT.wel.all (qx_loop sc _ _ _ _ _ _ (by rw [Int.toNat_natCast]; show (recW (sc.getD k []) 4).length ≤ _; omega)) rfl (by rw [IntKind.wrap_u64]; simp only; omega) rfl rfl rfl rfl rfl (bne_len hT'.len) i1 rfl).imp fun ps h => ⟨gamV_ok refPut_ok put_ok refDueNo_ok dueNo_ok forgetNo_ok, h⟩⟩
      · rename_i hc
        cases hn
        have hc2 : ¬ okA (recI (sc.getD k []) 2) m := fun h => hc ⟨h.1, by have := h.2; omega⟩
        refine ⟨⟨hT, hT0, by simp only; omega⟩, by simp only; omega, ?_⟩
        exact ⟨_, _, _, _, (qr_putno sc ll _ T _ m _ k _ _ _ _ c1 c2 (by omega) (by omega) d0 (by rw [Int.toNat_natCast]; show (recW (sc.getD k []) 4).length ≤ _; omega) hc2 hc (by unfold ptErr; exact bne_self_eq_false _) (qx_loop sc _ _ _ _ _ _ (by rw [Int.toNat_natCast]; show (recW (sc.getD k []) 4).length ≤ _; omega)) rfl rfl rfl rfl rfl rfl rfl hl0 i1 rfl).imp fun ps h => ⟨gamV_ok refPutNo_ok putNo_ok refDueNo_ok dueNo_ok forgetNo_ok, h⟩⟩
    · rename_i hk0
      have d0 : (recI (sc.getD k []) 0 == 0) = false := beq_eq_false_iff_ne.2 hk0
      split at hn
      · rename_i hk1
        have d1 : (recI (sc.getD k []) 0 == 1) = true := by rw [hk1]; rfl
        split at hn
        · rename_i hb
          cases hn
          refine ⟨⟨hT, hT0, by simp only; omega⟩, by simp only; omega, ?_⟩
          exact ⟨_, _, _, _, (qr_dueno sc ll _ T _ m _ k _ c1 c2 (by omega) (by omega) d0 d1 (by omega) (hT.none hb) (noDue_iff.1 hb) hl0 i1 rfl rfl rfl rfl).imp fun ps h => ⟨gamV_ok refPut_ok put_ok refDueNo_ok dueNo_ok forgetNo_ok, h⟩⟩
        · rename_i hb
          cases hn
          have hb' := Bool.eq_false_iff.2 hb
          obtain ⟨q1, q2, q3⟩ := hT.due hb'
          obtain ⟨p1, p2⟩ := due_is hb'
          have hpe := hT.wel.pop p1
          have hpw := (hT.wel.each _ hpe.2.2.1).2.2
          refine ⟨⟨q3, hT0, by simp only; omega⟩, by simp only; omega, ?_⟩
          exact ⟨_, _, _, _, (qr_due sc ll _ T _ m _ k _ c1 c2 (by omega) (by omega) d0 d1 (by omega) q1 hall p1 p2 hT.wel.all (by omega) q2.1 q2.2.1 q2.2.2 (by omega) (by show (((popL ll).length : Int) != ((m.eraseIdx (bF m (recI (sc.getD k []) 1) m.length).toNat).length : Int)) = false; rw [q3.len]; exact bne_self_eq_false _) i1 rfl rfl rfl rfl).imp fun ps h => ⟨gamV_ok refPut_ok put_ok refDue_ok due_ok forgetNo_ok, h⟩⟩
      · rename_i hk1
        have d1 : (recI (sc.getD k []) 0 == 1) = false := beq_eq_false_iff_ne.2 hk1
        split at hn
        · rename_i hk2
          have d2 : (recI (sc.getD k []) 0 == 2) = true := by rw [hk2]; rfl
          cases hn
          have hF := hT.forget (recI (sc.getD k []) 1)
          refine ⟨⟨hF, hT0, by simp only; omega⟩, by simp only; omega, ?_⟩
          by_cases hw : noW (recI (sc.getD k []) 1) ll
          · have hF2 := hF
            rw [noW_keep hw] at hF2
            refine ⟨_, _, _, _, (qr_forgetno sc ll _ T _ m _ k _ c1 c2 (by omega) (by omega) d0 d1 d2 (by omega) hall (by omega) hT.wel.all hw (by show (((initL ll).length : Int) != ((keepW (recI (sc.getD k []) 1) m).length : Int)) = false; rw [hF2.len]; exact bne_self_eq_false _) i1 rfl rfl ?_ rfl).imp fun ps h => ⟨gamV_ok refPut_ok put_ok refDueNo_ok dueNo_ok forgetNo_ok, h⟩⟩
            rw [noW_keep hw]
          · exact ⟨_, _, _, _, (qr_forget sc ll _ T _ m _ k _ c1 c2 (by omega) (by omega) d0 d1 d2 (by omega) hall (by omega) hT.wel.all hw (by show (((initL (keepW (recI (sc.getD k []) 1) ll)).length : Int) != ((keepW (recI (sc.getD k []) 1) m).length : Int)) = false; rw [hF.len]; exact bne_self_eq_false _) i1 rfl rfl rfl rfl).imp fun ps h => ⟨gamV_ok refPut_ok put_ok refDueNo_ok dueNo_ok forget_ok, h⟩⟩
        · rename_i hk2
          have d2 : (recI (sc.getD k []) 0 == 2) = false := beq_eq_false_iff_ne.2 hk2
          cases hn
          refine ⟨⟨hT, hT0, by simp only; omega⟩, by simp only; omega, ?_⟩
          exact ⟨_, _, _, _, (qr_none sc ll _ T _ m _ k _ c1 c2 (by omega) (by omega) d0 d1 d2 hl0 i1 rfl rfl rfl rfl).imp fun ps h => ⟨gamV_ok refPut_ok put_ok refDueNo_ok dueNo_ok forgetNo_ok, h⟩⟩
  · cases hn

theorem qr_loop {sc : List Rec} (hd : ∀ r ∈ sc, (recW r 4).length ≤ 140737488351232) : SumOK Try.prog D0 (bodyN Try.f4 0) (loopL D0 (qrSn sc [] 0 [] (0 : Nat)) (.exit 0) qrEd) := by
  refine sum_whileG mixed (fun s : QS => qrSn sc s.1 s.2.1 s.2.2.1 s.2.2.2) (qrNx sc) QInv (fun s => 200 - s.2.2.2) rfl ([], 0, [], 0) ⟨⟨Wel.nil _, [], List.Perm.refl _, rfl, List.Pairwise.nil⟩, Int.le_refl _, Int.le_refl _⟩ (fun x y hx hn => qr_step hd hx hn) (fun z hz hn _ => ?_)
  obtain ⟨ll, T, m, k⟩ := z
  unfold qrNx at hn
  simp only at hn
  split at hn
  · split at hn
    · split at hn <;> cases hn
    · split at hn
      · split at hn <;> cases hn
      · split at hn <;> cases hn
  · rename_i hk
    by_cases h1 : k < sc.length
    · exact ⟨_, _, _, _, (qr_end2 sc ll T m k (decide_eq_true (by omega)) (decide_eq_false (by omega))).imp fun ps h => ⟨gam_nil, h⟩⟩
    · exact ⟨_, _, _, _, (qr_end sc ll T m k (decide_eq_false (by omega))).imp fun ps h => ⟨gam_nil, h⟩⟩

theorem law_runs {sc : List Rec} (hd : ∀ r ∈ sc, (recW r 4).length ≤ 140737488351232) : ∃ Γ, GamOK Try.prog D0 Γ ∧ ∃ ds ps, runF Try.prog D0 Γ 100 Try.f4 [.one (.prs opSh sc)] ds = some (.v (.one (.bool true true)), ps) ∧ AllQ ps :=
  ⟨_, gamV_ok refPut_ok put_ok refDueNo_ok dueNo_ok forgetNo_ok, _, qr_run sc (qr_loop hd)⟩

end Go.Num

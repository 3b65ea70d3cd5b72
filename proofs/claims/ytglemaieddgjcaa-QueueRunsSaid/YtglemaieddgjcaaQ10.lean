/- Queue: QueueForgets, the plain law. -/
import Derived.Test.YtglemaieddgjcaaQ9
namespace Go.Num
open Go.Abs Go.Proofs Go.Shelf

structure Wel (ll : List Rec) (T : Int) : Prop where
  heap : Heap ll 0 ll.length
  all : EnAll ll
  few : ll.length ≤ 4096
  each : ∀ r ∈ ll, recI r 3 < T ∧ recI r 0 ≤ 1099511627776 ∧ (recW r 2).length ≤ 281474976710656

theorem Wel.nil (T : Int) : Wel [] T := ⟨fun k hk hkl => (by cases hkl), fun r hr => (by cases hr), Nat.zero_le _, fun r hr => (by cases hr)⟩

theorem Wel.push {ll : List Rec} {T a w : Int} {d : List Int} (h : Wel ll T) (h1 : a ≤ 1099511627776) (hd : d.length ≤ 281474976710656) (hl : ll.length < 4096) : Wel (pushL ll (mkE a w d T)) (T + 1) ∧ (pushL ll (mkE a w d T)).length = ll.length + 1 := by
  have hi := pushL_inv h.all (⟨a, w, d, T, rfl⟩ : enOK (mkE a w d T))
  obtain ⟨hh, hp⟩ := push_heap h.heap (mkE a w d T)
  refine ⟨⟨by rw [hi.2]; exact hh, hi.1, by rw [hi.2]; omega, fun r hr => ?_⟩, hi.2⟩
  rcases List.mem_append.1 (hp.mem_iff.1 hr) with hr | hr
  · have := h.each r hr
    exact ⟨by omega, this.2⟩
  · rw [List.mem_singleton] at hr
    subst hr
    exact ⟨by show T < T + 1; omega, h1, hd⟩

theorem Wel.pop {ll : List Rec} {T : Int} (h : Wel ll T) (h0 : 0 < ll.length) : Wel (popL ll) T ∧ (popE ll :: popL ll).Perm ll ∧ popE ll ∈ ll ∧ popE ll = ll.getD 0 [] ∧ (popL ll).length = ll.length - 1 ∧ ∀ r ∈ ll, leR (popE ll) r := by
  obtain ⟨h1, h2, h3⟩ := pop_heap h.heap h0
  have hi := popL_inv h.all h0
  have hsub : ∀ r ∈ popL ll, r ∈ ll := fun r hr => h2.mem_iff.1 (List.mem_cons_of_mem _ hr)
  refine ⟨⟨h1, hi.1, by rw [hi.2]; have := h.few; omega, fun r hr => h.each r (hsub r hr)⟩, h2, h2.mem_iff.1 (List.mem_cons_self ..), h3, hi.2, fun r hr => ?_⟩
  obtain ⟨i, hil, rfl⟩ := List.mem_iff_getElem.1 hr
  have hroot := heap_root h.heap i hil
  rw [← h3, List.getD_eq_getElem?_getD, List.getElem?_eq_getElem hil] at hroot
  exact hroot

/-! Two queues that hold the same -/

def SameE (p : Rec × Rec) : Prop := recI p.1 0 = recI p.2 0 ∧ recI p.1 1 = recI p.2 1 ∧ recW p.1 2 = recW p.2 2
def Tz (p q : Rec × Rec) : Prop := (recI p.1 3 < recI q.1 3 ∧ recI p.2 3 < recI q.2 3) ∨ (recI q.1 3 < recI p.1 3 ∧ recI q.2 3 < recI p.2 3)
theorem Tz.symm {p q : Rec × Rec} (h : Tz p q) : Tz q p := h.elim Or.inr Or.inl
def Twin (a b : List Rec) : Prop := ∃ Z : List (Rec × Rec), (Z.map Prod.fst).Perm a ∧ (Z.map Prod.snd).Perm b ∧ (∀ p ∈ Z, SameE p) ∧ Z.Pairwise Tz

theorem Twin.nil : Twin [] [] := ⟨[], List.Perm.refl _, List.Perm.refl _, fun p hp => (by cases hp), List.Pairwise.nil⟩

theorem Twin.add {a b a' b' : List Rec} {r s : Rec} (h : Twin a b) (ha : a'.Perm (a ++ [r])) (hb : b'.Perm (b ++ [s])) (he : SameE (r, s)) (h1 : ∀ x ∈ a, recI x 3 < recI r 3) (h2 : ∀ x ∈ b, recI x 3 < recI s 3) : Twin a' b' := by
  obtain ⟨Z, z1, z2, z3, z4⟩ := h
  refine ⟨Z ++ [(r, s)], ?_, ?_, ?_, ?_⟩
  · rw [List.map_append]
    exact (z1.append_right _).trans ha.symm
  · rw [List.map_append]
    exact (z2.append_right _).trans hb.symm
  · intro p hp
    rcases List.mem_append.1 hp with hp | hp
    · exact z3 p hp
    · rw [List.mem_singleton] at hp
      subst hp
      exact he
  · rw [List.pairwise_append]
    refine ⟨z4, List.pairwise_singleton _ _, fun p hp q hq => ?_⟩
    rw [List.mem_singleton] at hq
    subst hq
    exact Or.inl ⟨h1 _ (z1.mem_iff.1 (List.mem_map_of_mem hp)), h2 _ (z2.mem_iff.1 (List.mem_map_of_mem hp))⟩

theorem Twin.len {a b : List Rec} (h : Twin a b) : a.length = b.length := by
  obtain ⟨Z, z1, z2, _, _⟩ := h
  rw [← z1.length_eq, ← z2.length_eq, List.length_map, List.length_map]

theorem Twin.perm {a b a' : List Rec} (h : Twin a b) (ha : a'.Perm a) : Twin a' b := by
  obtain ⟨Z, z1, z2, z3, z4⟩ := h
  exact ⟨Z, z1.trans ha.symm, z2, z3, z4⟩

theorem Twin.pop {a b : List Rec} {S T : Int} (h : Twin a b) (ha : Wel a S) (hb : Wel b T) (h0 : 0 < a.length) : SameE (popE a, popE b) ∧ Twin (popL a) (popL b) := by
  have hlen := h.len
  obtain ⟨Z, z1, z2, z3, z4⟩ := h
  obtain ⟨a1, a2, a3, a4, a5, a6⟩ := ha.pop h0
  obtain ⟨b1, b2, b3, b4, b5, b6⟩ := hb.pop (by omega)
  obtain ⟨p, hp, ep⟩ := List.mem_map.1 (z1.mem_iff.2 a3)
  obtain ⟨q, hq, eq⟩ := List.mem_map.1 (z2.mem_iff.2 b3)
  obtain ⟨s, t, rfl⟩ := List.append_of_mem hp
  have hz : (s ++ p :: t).Perm (p :: (s ++ t)) := List.perm_middle
  have z4' := (hz.pairwise_iff Tz.symm).1 z4
  rw [List.pairwise_cons] at z4'
  have hqp : q = p := by
    rcases List.mem_cons.1 (hz.mem_iff.1 hq) with h | h
    · exact h
    · have c1 := z4'.1 q h
      have c2 := a6 _ (z1.mem_iff.1 (List.mem_map_of_mem hq))
      have c3 := b6 _ (z2.mem_iff.1 (List.mem_map_of_mem hp))
      have c4 := z3 p hp
      have c5 := z3 q hq
      rw [← ep] at c2
      rw [← eq] at c3
      unfold Tz at c1
      unfold leR at c2 c3
      unfold SameE at c4 c5
      omega
  subst hqp
  refine ⟨by have := z3 q hp; rw [← ep, ← eq]; exact this, s ++ t, ?_, ?_, fun r hr => z3 r (hz.mem_iff.2 (List.mem_cons_of_mem _ hr)), z4'.2⟩
  · have h1 := (hz.map Prod.fst).symm.trans (z1.trans a2.symm)
    rw [List.map_cons, ep] at h1
    exact List.perm_cons _ |>.1 h1
  · have h1 := (hz.map Prod.snd).symm.trans (z2.trans b2.symm)
    rw [List.map_cons, eq] at h1
    exact List.perm_cons _ |>.1 h1

/-! The first loop -/

def wK (whos : List Int) (k : Nat) : Int := if k < whos.length then whos.getD k 0 else 0
def dK (k : Nat) : List Int := [IntKind.u8.wrap (k : Int), IntKind.u8.wrap (Int.fdiv (k : Int) (2 ^ (min 8 64)))]
def okA (a : Int) (ll : List Rec) : Prop := (0 ≤ a ∧ a ≤ 1099511627776) ∧ ll.length < 4096
instance (a : Int) (ll : List Rec) : Decidable (okA a ll) := inferInstanceAs (Decidable (_ ∧ _))
def put1 (a w : Int) (d : List Int) (ll : List Rec) : List Rec := if okA a ll then pushL ll (mkE a w d ll.length) else ll

def aL (ats whos : List Int) : Nat → List Rec
  | 0 => []
  | k + 1 => put1 (ats.getD k 0) (wK whos k) (dK k) (aL ats whos k)
def bL (ats whos : List Int) (who : Int) : Nat → List Rec
  | 0 => []
  | k + 1 => if wK whos k = who then bL ats whos who k else put1 (ats.getD k 0) (wK whos k) (dK k) (bL ats whos who k)

theorem Wel.put1 {ll : List Rec} (h : Wel ll ll.length) (a w : Int) {d : List Int} (hd : d.length ≤ 281474976710656) : Wel (put1 a w d ll) (put1 a w d ll).length ∧ ll.length ≤ (Go.Num.put1 a w d ll).length ∧ (Go.Num.put1 a w d ll).length ≤ ll.length + 1 := by
  unfold Go.Num.put1
  split
  · rename_i hc
    have := h.push (w := w) hc.1.2 hd hc.2
    rw [this.2]
    exact ⟨this.1, by omega, by omega⟩
  · exact ⟨h, by omega, by omega⟩

theorem fg_inv (ats whos : List Int) (who : Int) : ∀ k, Wel (aL ats whos k) (aL ats whos k).length ∧ Wel (bL ats whos who k) (bL ats whos who k).length ∧ (bL ats whos who k).length ≤ (aL ats whos k).length ∧ ((aL ats whos k).length < 4096 → Twin (keepW who (aL ats whos k)) (bL ats whos who k))
  | 0 => ⟨Wel.nil _, Wel.nil _, Nat.le_refl _, fun _ => Twin.nil⟩
  | k + 1 => by
    obtain ⟨h1, h2, h3, h4⟩ := fg_inv ats whos who k
    have hd : (dK k).length ≤ 281474976710656 := by show 2 ≤ _; omega
    have ea := h1.put1 (ats.getD k 0) (wK whos k) hd
    have eb := h2.put1 (ats.getD k 0) (wK whos k) hd
    unfold aL bL
    by_cases hw : wK whos k = who
    · rw [if_pos hw]
      refine ⟨ea.1, h2, by omega, fun hl => ?_⟩
      have ht := h4 (by omega)
      unfold put1
      split
      · rename_i hc
        refine ht.perm ?_
        have hp := ((push_heap h1.heap (mkE (ats.getD k 0) (wK whos k) (dK k) (aL ats whos k).length)).2).filter fun r => !isW who r
        rw [List.filter_append] at hp
        have e : List.filter (fun r => !isW who r) [mkE (ats.getD k 0) (wK whos k) (dK k) (aL ats whos k).length] = [] := by
          simp only [List.filter]
          have : isW who (mkE (ats.getD k 0) (wK whos k) (dK k) (aL ats whos k).length) = true := by show (wK whos k == who) = true; rw [hw]; exact beq_self_eq_true _
          rw [this]
          rfl
        rw [e, List.append_nil] at hp
        exact hp
      · exact ht
    · rw [if_neg hw]
      refine ⟨ea.1, eb.1, ?_, fun hl => ?_⟩
      · by_cases hc : okA (ats.getD k 0) (bL ats whos who k)
        · by_cases hc2 : okA (ats.getD k 0) (aL ats whos k)
          · have e1 : (put1 (ats.getD k 0) (wK whos k) (dK k) (aL ats whos k)).length = (aL ats whos k).length + 1 := by
              unfold put1
              rw [if_pos hc2, (h1.push hc2.1.2 hd hc2.2).2]
            omega
          · have := h1.few
            have hf : (aL ats whos k).length = 4096 := by unfold okA at hc hc2; omega
            have := eb.1.few
            omega
        · have e1 : put1 (ats.getD k 0) (wK whos k) (dK k) (bL ats whos who k) = bL ats whos who k := if_neg hc
          rw [e1]
          omega
      · have ht := h4 (by omega)
        have hf : (aL ats whos k).length < 4096 := by omega
        by_cases hc : 0 ≤ ats.getD k 0 ∧ ats.getD k 0 ≤ 1099511627776
        · have c1 : okA (ats.getD k 0) (aL ats whos k) := ⟨hc, hf⟩
          have c2 : okA (ats.getD k 0) (bL ats whos who k) := ⟨hc, by omega⟩
          unfold put1
          rw [if_pos c1, if_pos c2]
          have hp := ((push_heap h1.heap (mkE (ats.getD k 0) (wK whos k) (dK k) (aL ats whos k).length)).2).filter fun r => !isW who r
          rw [List.filter_append] at hp
          have e : List.filter (fun r => !isW who r) [mkE (ats.getD k 0) (wK whos k) (dK k) (aL ats whos k).length] = [mkE (ats.getD k 0) (wK whos k) (dK k) (aL ats whos k).length] := by
            simp only [List.filter]
            have : isW who (mkE (ats.getD k 0) (wK whos k) (dK k) (aL ats whos k).length) = false := by show (wK whos k == who) = false; exact beq_eq_false_iff_ne.2 hw
            rw [this]
            rfl
          rw [e] at hp
          exact ht.add hp (push_heap h2.heap (mkE (ats.getD k 0) (wK whos k) (dK k) (bL ats whos who k).length)).2 ⟨rfl, rfl, rfl⟩ (fun x hx => (h1.each x (List.mem_filter.1 hx).1).1) (fun x hx => (h2.each x hx).1)
        · have e1 : ∀ ll, put1 (ats.getD k 0) (wK whos k) (dK k) ll = ll := fun ll => if_neg (fun h => hc h.1)
          rw [e1, e1]
          exact ht

theorem turn_up {ll : List Rec} (h : ll.length ≤ 4096) : IntKind.u64.wrap ((ll.length : Int) + 1) = ((ll.length + 1 : Nat) : Int) := by rw [IntKind.wrap_u64]; omega

theorem fg_loop {ats whos : List Int} {who : Int} (hl : ats.length * 8 ≤ 140737488351232) : SumOK Try.prog D0 (bodyN Try.f6 0) (loopL D0 (fgSn ats whos who [] 0 [] 0 0) (.exit 0) (fgEd who (aL ats whos ats.length) (aL ats whos ats.length).length (bL ats whos who ats.length) (bL ats whos who ats.length).length)) := by
  refine sum_whileG mixed (fun k : Nat => fgSn ats whos who (aL ats whos k) (aL ats whos k).length (bL ats whos who k) (bL ats whos who k).length k) (fun k => if k < ats.length then some (k + 1) else none) (fun k => k ≤ ats.length) (fun k => ats.length - k) rfl 0 (Nat.zero_le _) (fun k y hk hn => ?_) (fun k hk hn _ => ?_)
  · split at hn
    · rename_i hlt
      cases hn
      refine ⟨by omega, by omega, ?_⟩
      obtain ⟨h1, h2, h3, h4⟩ := fg_inv ats whos who k
      have hd : (dK k).length ≤ 281474976710656 := by show 2 ≤ _; omega
      have f1 := h1.few
      have f2 := h2.few
      have ek : ((k : Int)).toNat = k := Int.toNat_natCast k
      have eA : aL ats whos (k + 1) = put1 (ats.getD k 0) (wK whos k) (dK k) (aL ats whos k) := rfl
      have eB : bL ats whos who (k + 1) = if wK whos k = who then bL ats whos who k else put1 (ats.getD k 0) (wK whos k) (dK k) (bL ats whos who k) := rfl
      have pA : okA (ats.getD k 0) (aL ats whos k) → put1 (ats.getD k 0) (wK whos k) (dK k) (aL ats whos k) = pushL (aL ats whos k) (mkE (ats.getD k 0) (wK whos k) (dK k) (aL ats whos k).length) ∧ ((put1 (ats.getD k 0) (wK whos k) (dK k) (aL ats whos k)).length : Int) = IntKind.u64.wrap (((aL ats whos k).length : Int) + 1) := fun hc => by
        unfold put1
        rw [if_pos hc, turn_up f1, (h1.push hc.1.2 hd hc.2).2]
        exact ⟨rfl, rfl⟩
      have pB : okA (ats.getD k 0) (bL ats whos who k) → put1 (ats.getD k 0) (wK whos k) (dK k) (bL ats whos who k) = pushL (bL ats whos who k) (mkE (ats.getD k 0) (wK whos k) (dK k) (bL ats whos who k).length) ∧ ((put1 (ats.getD k 0) (wK whos k) (dK k) (bL ats whos who k)).length : Int) = IntKind.u64.wrap (((bL ats whos who k).length : Int) + 1) := fun hc => by
        unfold put1
        rw [if_pos hc, turn_up f2, (h2.push hc.1.2 hd hc.2).2]
        exact ⟨rfl, rfl⟩
      have nA : ¬ okA (ats.getD k 0) (aL ats whos k) → put1 (ats.getD k 0) (wK whos k) (dK k) (aL ats whos k) = aL ats whos k := fun hc => if_neg hc
      have nB : ¬ okA (ats.getD k 0) (bL ats whos who k) → put1 (ats.getD k 0) (wK whos k) (dK k) (bL ats whos who k) = bL ats whos who k := fun hc => if_neg hc
      have gA : GamOK Try.prog D0 (gamT (orF put3Q putQ) dueNoQ forgetNoQ) := gamT_ok (opOK_or put3_ok put_ok) dueNo_ok forgetNo_ok
      have gB : GamOK Try.prog D0 (gamT (orF putNo3Q putNoQ) dueNoQ forgetNoQ) := gamT_ok (opOK_or putNo3_ok putNo_ok) dueNo_ok forgetNo_ok
      have gC : GamOK Try.prog D0 (gamT (orF put3Q putNoQ) dueNoQ forgetNoQ) := gamT_ok (opOK_or put3_ok putNo_ok) dueNo_ok forgetNo_ok
      have gD : GamOK Try.prog D0 (gamT putQ dueNoQ forgetNoQ) := gamT_ok put_ok dueNo_ok forgetNo_ok
      have gE : GamOK Try.prog D0 (gamT putNoQ dueNoQ forgetNoQ) := gamT_ok putNo_ok dueNo_ok forgetNo_ok
      have d1 : decide ((k : Int) < ats.length) = true := decide_eq_true (by omega)
      have i1 : InI64 ((k : Int) + 1) := ⟨by omega, by omega⟩
      rw [eA, eB]
      by_cases hi : k < whos.length
      · have ew : wK whos k = whos.getD k 0 := if_pos hi
        have d2 : decide ((k : Int) < whos.length) = true := decide_eq_true (by omega)
        by_cases hw : wK whos k = who
        · rw [if_pos hw]
          have d3 : (whos.getD k 0 != who) = false := by rw [← ew, hw]; exact bne_self_eq_false _
          by_cases hA : okA (ats.getD k 0) (aL ats whos k)
          · exact ⟨_, _, _, _, (fg_sok_w ats whos who (aL ats whos k) _ _ _ (bL ats whos who k) _ _ _ k _ d1 (by omega) (by omega) d2 (by omega) hA.1.1 hA.1.2 hA.2 (by omega) h1.all d3 i1 (by omega) (pA hA).2.symm (by rw [(pA hA).1, ew]; rfl) rfl rfl).imp fun ps h => ⟨gD, h⟩⟩
          · rw [nA hA]
            exact ⟨_, _, _, _, (fg_sno_w ats whos who (aL ats whos k) _ _ _ (bL ats whos who k) _ _ _ k _ d1 (by omega) (by omega) d2 (by omega) hA d3 i1 (by omega) rfl rfl rfl rfl).imp fun ps h => ⟨gE, h⟩⟩
        · rw [if_neg hw]
          have d3 : (whos.getD k 0 != who) = true := by rw [← ew]; exact bne_iff_ne.2 hw
          by_cases hA : okA (ats.getD k 0) (aL ats whos k)
          · have hB : okA (ats.getD k 0) (bL ats whos who k) := ⟨hA.1, by have := hA.2; omega⟩
            exact ⟨_, _, _, _, (fg_ok_w ats whos who (aL ats whos k) _ _ _ (bL ats whos who k) _ _ _ k _ d1 (by omega) (by omega) d2 (by omega) hA.1.1 hA.1.2 hA.2 (by omega) h1.all d3 hB.2 h2.all i1 (by omega) (pA hA).2.symm (by rw [(pA hA).1, ew]; rfl) (by rw [(pB hB).2]) (by rw [(pB hB).1, ew]; rfl)).imp fun ps h => ⟨gA, h⟩⟩
          · by_cases hB : okA (ats.getD k 0) (bL ats whos who k)
            · rw [nA hA]
              exact ⟨_, _, _, _, (fg_nok_w ats whos who (aL ats whos k) _ _ _ (bL ats whos who k) _ _ _ k _ d1 (by omega) (by omega) d2 (by omega) hA d3 hB.1.1 hB.1.2 hB.2 (by omega) h2.all i1 (by omega) rfl rfl (by rw [(pB hB).2]) (by rw [(pB hB).1, ew]; rfl)).imp fun ps h => ⟨gC, h⟩⟩
            · rw [nA hA, nB hB]
              exact ⟨_, _, _, _, (fg_no_w ats whos who (aL ats whos k) _ _ _ (bL ats whos who k) _ _ _ k _ d1 (by omega) (by omega) d2 (by omega) hA d3 hB i1 (by omega) rfl rfl rfl rfl).imp fun ps h => ⟨gB, h⟩⟩
      · have ew : wK whos k = 0 := if_neg hi
        have d2 : decide ((k : Int) < whos.length) = false := decide_eq_false (by omega)
        by_cases hw : wK whos k = who
        · rw [if_pos hw]
          have d3 : ((0 : Int) != who) = false := by rw [← ew, hw]; exact bne_self_eq_false _
          by_cases hA : okA (ats.getD k 0) (aL ats whos k)
          · exact ⟨_, _, _, _, (fg_sok_z ats whos who (aL ats whos k) _ _ _ (bL ats whos who k) _ _ _ k _ d1 (by omega) (by omega) d2 hA.1.1 hA.1.2 hA.2 (by omega) h1.all d3 i1 (by omega) (pA hA).2.symm (by rw [(pA hA).1, ew]; rfl) rfl rfl).imp fun ps h => ⟨gD, h⟩⟩
          · rw [nA hA]
            exact ⟨_, _, _, _, (fg_sno_z ats whos who (aL ats whos k) _ _ _ (bL ats whos who k) _ _ _ k _ d1 (by omega) (by omega) d2 hA d3 i1 (by omega) rfl rfl rfl rfl).imp fun ps h => ⟨gE, h⟩⟩
        · rw [if_neg hw]
          have d3 : ((0 : Int) != who) = true := by rw [← ew]; exact bne_iff_ne.2 hw
          by_cases hA : okA (ats.getD k 0) (aL ats whos k)
          · have hB : okA (ats.getD k 0) (bL ats whos who k) := ⟨hA.1, by have := hA.2; omega⟩
            exact ⟨_, _, _, _, (fg_ok_z ats whos who (aL ats whos k) _ _ _ (bL ats whos who k) _ _ _ k _ d1 (by omega) (by omega) d2 hA.1.1 hA.1.2 hA.2 (by omega) h1.all d3 hB.2 h2.all i1 (by omega) (pA hA).2.symm (by rw [(pA hA).1, ew]; rfl) (by rw [(pB hB).2]) (by rw [(pB hB).1, ew]; rfl)).imp fun ps h => ⟨gA, h⟩⟩
          · by_cases hB : okA (ats.getD k 0) (bL ats whos who k)
            · rw [nA hA]
              exact ⟨_, _, _, _, (fg_nok_z ats whos who (aL ats whos k) _ _ _ (bL ats whos who k) _ _ _ k _ d1 (by omega) (by omega) d2 hA d3 hB.1.1 hB.1.2 hB.2 (by omega) h2.all i1 (by omega) rfl rfl (by rw [(pB hB).2]) (by rw [(pB hB).1, ew]; rfl)).imp fun ps h => ⟨gC, h⟩⟩
            · rw [nA hA, nB hB]
              exact ⟨_, _, _, _, (fg_no_z ats whos who (aL ats whos k) _ _ _ (bL ats whos who k) _ _ _ k _ d1 (by omega) (by omega) d2 hA d3 hB i1 (by omega) rfl rfl rfl rfl).imp fun ps h => ⟨gB, h⟩⟩
    · cases hn
  · split at hn
    · cases hn
    · rename_i hlt
      obtain rfl : k = ats.length := by omega
      exact ⟨_, _, _, _, (fg_exit ats whos who _ _ _ _ ats.length (decide_eq_false (by omega))).imp fun ps h => ⟨gamT_ok put_ok dueNo_ok forgetNo_ok, h⟩⟩

/-! The second loop -/

def f2Nx (s : List Rec × List Rec) : Option (List Rec × List Rec) := if s.1 = [] then none else some (popL s.1, popL s.2)

theorem f2_loop {a b : List Rec} {s t : Int} (hT : Twin a b) (ha : Wel a s) (hb : Wel b t) : SumOK Try.prog D0 (bodyN Try.f6 1) (loopL D0 (f2Sn a s b t) .ret f2Ed) := by
  refine sum_whileG mixed (fun x : List Rec × List Rec => f2Sn x.1 s x.2 t) f2Nx (fun x => Twin x.1 x.2 ∧ Wel x.1 s ∧ Wel x.2 t) (fun x => x.1.length) rfl (a, b) ⟨hT, ha, hb⟩ (fun x y hx hn => ?_) (fun z hz hn _ => ?_)
  · obtain ⟨x1, x2⟩ := x
    obtain ⟨h1, h2, h3⟩ := hx
    unfold f2Nx at hn
    simp only at h1 h2 h3 hn
    split at hn
    · cases hn
    rename_i h0
    cases hn
    have hp := List.length_pos_iff.2 h0
    have hl := h1.len
    obtain ⟨a1, a2, a3, a4, a5, a6⟩ := h2.pop hp
    obtain ⟨b1, b2, b3, b4, b5, b6⟩ := h3.pop (by omega)
    obtain ⟨e1, e2⟩ := h1.pop h2 h3 hp
    have q1 := h2.each _ a3
    have q2 := h3.each _ b3
    have f1 := h2.few
    have f2 := h3.few
    refine ⟨⟨e2, a1, b1⟩, by simp only; omega, ?_⟩
    exact ⟨_, _, _, _, (f2_round x1 _ s x2 _ t hp (by rw [← a4]; exact q1.2.1) h2.all (by omega) (by omega) (by rw [← b4]; exact q2.2.1) h3.all (by omega) e1.1 e1.2.1 e1.2.2 (by have := q1.2.2; omega) rfl rfl).imp fun ps h => ⟨gamT_ok put_ok due_ok forgetNo_ok, h⟩⟩
  · obtain ⟨z1, z2⟩ := z
    obtain ⟨h1, h2, h3⟩ := hz
    unfold f2Nx at hn
    simp only at h1 h2 h3 hn
    split at hn
    · rename_i h0
      subst h0
      have h5 : z2 = [] := List.length_eq_zero_iff.1 h1.len.symm
      subst h5
      exact ⟨_, _, _, _, (f2_exit [] s [] t (Or.inl rfl) (Or.inl rfl) (by decide)).imp fun ps h => ⟨gamT_ok put_ok dueNo_ok forgetNo_ok, h⟩⟩
    · cases hn

theorem Wel.init {ll : List Rec} {T : Int} (h : Wel ll T) (m : List Rec) (hm : ∀ r ∈ m, r ∈ ll) (hl : m.length ≤ ll.length) : Wel (initL m) T ∧ (initL m).Perm m := by
  have hi := initL_inv (fun r hr => h.all r (hm r hr) : EnAll m)
  obtain ⟨h1, h2⟩ := init_heap m
  exact ⟨⟨by rw [hi.2]; exact h1, hi.1, by rw [hi.2]; have := h.few; omega, fun r hr => h.each r (hm r (h2.mem_iff.1 hr))⟩, h2⟩

theorem noW_keep {w : Int} {ll : List Rec} (h : noW w ll) : keepW w ll = ll := by
  unfold keepW
  rw [List.filter_eq_self]
  intro r hr
  obtain ⟨k, hk, rfl⟩ := List.mem_iff_getElem.1 hr
  have h3 := List.not_of_lt_findIdx (p := isW w) (xs := ll) (i := k) (by unfold noW at h; omega)
  simpa using h3

theorem law_forgets {ats whos : List Int} {who : Int} (_ : ∀ x ∈ ats, InI64 x) (hl : ats.length * 8 ≤ 140737488351232) (_ : ∀ x ∈ whos, InI64 x) (_ : whos.length * 8 ≤ 140737488351232) (_ : InI64 who) : ∃ Γ, GamOK Try.prog D0 Γ ∧ ∃ ds ps, runF Try.prog D0 Γ 100 Try.f6 [.one (.words .i64 ats), .one (.words .i64 whos), .one (.int .i64 false who)] ds = some (.v (.one (.bool true true)), ps) ∧ AllQ ps := by
  have l1 := fg_loop (ats := ats) (whos := whos) (who := who) hl
  obtain ⟨h1, h2, h3, h4⟩ := fg_inv ats whos who ats.length
  have f1 := h1.few
  by_cases hf : (aL ats whos ats.length).length = 4096
  · exact ⟨_, gamT_ok put_ok dueNo_ok forgetNo_ok, _, fr_full ats whos who _ _ _ _ l1 (by rw [hf]; rfl)⟩
  · have hT := h4 (by omega)
    have d1 : (((aL ats whos ats.length).length : Int) == 4096) = false := beq_eq_false_iff_ne.2 (by omega)
    by_cases hw : noW who (aL ats whos ats.length)
    · have hi := h1.init (aL ats whos ats.length) (fun r hr => hr) (Nat.le_refl _)
      rw [noW_keep hw] at hT
      exact ⟨_, gamT_ok put_ok dueNo_ok forgetNo_ok, _, fr_none ats whos who _ _ _ _ l1 d1 (by omega) h1.all hw (f2_loop (hT.perm hi.2) hi.1 h2)⟩
    · have hi := h1.init (keepW who (aL ats whos ats.length)) (fun r hr => (List.mem_filter.1 hr).1) (List.length_filter_le ..)
      exact ⟨_, gamT_ok put_ok dueNo_ok forget_ok, _, fr_some ats whos who _ _ _ _ l1 d1 (by omega) h1.all hw (f2_loop (hT.perm hi.2) hi.1 h2)⟩

end Go.Num

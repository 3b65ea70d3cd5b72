/- Several texts put together: BP4 BP5 BP6 B26 Frame FrB FrB2. -/
import Derived.Test.YtgfinnhfpiadiaaMrg12
import Derived.Test.YtgfinnhfpiadiaaRows
import Derived.WalkKit
import Derived.ProofKit
import Derived.OpenShut
import Derived.ShutString
import Derived.SizedLaws
import Derived.Carry
namespace Go.Num
open Go.Abs
theorem hubK {i a : Int} (hi : 1 ≤ i) (ha : 1 ≤ a) : (([.i ((a - 1).toNat : Nat)] : Rec) = [.i ((i - 1).toNat : Nat)]) ↔ a = i := by
  constructor
  · intro h
    simp only [List.cons.injEq, Fd.i.injEq, and_true] at h
    omega
  · intro h; rw [h]
theorem obI_put {es : List (Rec × Ob)} {i a : Int} {e1 : List (Rec × Ob)} (hi : 1 ≤ i) (ha : 1 ≤ a) : obI (putM es i e1) a = if a = i then hubOb (recI (obI es i).r 0) (recW (obI es i).r 1) e1 else obI es a := by
  have hk := hubK hi ha
  unfold putM
  show obE (setE es _ _) _ = _
  rw [obE_set]
  by_cases h : a = i
  · rw [if_pos h, if_pos (hk.2 h)]
  · rw [if_neg h, if_neg fun e => h (hk.1 e)]
    rfl
theorem putM_len {es : List (Rec × Ob)} {i : Int} {e1 : List (Rec × Ob)} (h : hasE es [.i ((i - 1).toNat : Nat)] = true) : (putM es i e1).length = es.length := by
  have := setE_keys (o := hubOb (recI (obI es i).r 0) (recW (obI es i).r 1) e1) h
  have := congrArg List.length this
  rw [List.length_map, List.length_map] at this
  exact this
structure HubsOK (n g : Nat) (es : List (Rec × Ob)) : Prop where
  len : es.length = g
  has : ∀ i, Good g i → hasE es [.i ((i - 1).toNat : Nat)] = true
  me : ∀ i, Good g i → recI (obI es i).r 0 = i
  mb : ∀ i, Good g i → recW (obI es i).r 1 = mbN n
  e : ∀ i key, Good g i → WfN n (ofT ((obI es i).c 0) key).ee
  q : ∀ i key, Good g i → WfN n (ofT ((obI es i).c 0) key).rr
theorem WfN.notes {n : Nat} {ee : List (Rec × Ob)} (h : WfN n ee) (h9 : n ≤ 9) : ee.length ≤ 30000 ∧ ∀ e ∈ ee, InB (recW e.2.r 0) := ⟨by have := h.len; omega, h.b⟩
theorem HubsOK.hu {n g : Nat} {es : List (Rec × Ob)} (h : HubsOK n g es) (h9 : n ≤ 9) (hg : g ≤ n) {i : Int} (hi : Good g i) : HuOK es i := by
  have hi' := hi
  obtain ⟨h1, h2⟩ := hi
  refine ⟨⟨h1, by rw [h.len]; exact h2, by rw [h.len]; omega⟩, h.has i hi', ?_, fun key => ⟨(h.e i key hi').notes h9, (h.q i key hi').notes h9⟩⟩
  rw [h.me i hi', h.mb i hi']
  exact mbN_hb h9 ⟨h1, by omega⟩
theorem HubsOK.put {n g : Nat} {es : List (Rec × Ob)} (h : HubsOK n g es) {i : Int} (hi : Good g i) {e1 : List (Rec × Ob)} (he : ∀ key, WfN n (ofT e1 key).ee ∧ WfN n (ofT e1 key).rr) : HubsOK n g (putM es i e1) := by
  have ob : ∀ a, Good g a → obI (putM es i e1) a = if a = i then hubOb (recI (obI es i).r 0) (recW (obI es i).r 1) e1 else obI es a := fun a ha => obI_put hi.1 ha.1
  refine ⟨by rw [putM_len (h.has i hi)]; exact h.len, fun a ha => ?_, fun a ha => ?_, fun a ha => ?_, fun a key ha => ?_, fun a key ha => ?_⟩
  · unfold putM
    rw [hasE_set, h.has a ha, Bool.or_true]
  · rw [ob a ha]
    split
    · rename_i hc; subst hc
      exact h.me a ha
    · exact h.me a ha
  · rw [ob a ha]
    split
    · rename_i hc; subst hc
      exact h.mb a ha
    · exact h.mb a ha
  · rw [ob a ha]
    split
    · exact (he key).1
    · exact h.e a key ha
  · rw [ob a ha]
    split
    · exact (he key).2
    · exact h.q a key ha
def InC (i t w : Int) : Prop := (1 ≤ i ∧ i ≤ 9) ∧ (1 ≤ t ∧ t ≤ 3) ∧ 1 ≤ w ∧ w ≤ 9
instance (i t w : Int) : Decidable (InC i t w) := by unfold InC; infer_instance
theorem cellN_inj {i t w i' t' w' : Int} (h : InC i t w) (h' : InC i' t' w') : cellN i t w = cellN i' t' w' ↔ (i' = i ∧ t' = t ∧ w' = w) := by
  obtain ⟨⟨a1, a2⟩, ⟨b1, b2⟩, c1, c2⟩ := h
  obtain ⟨⟨a1', a2'⟩, ⟨b1', b2'⟩, c1', c2'⟩ := h'
  unfold cellN
  constructor
  · intro h; omega
  · rintro ⟨rfl, rfl, rfl⟩; rfl
theorem cellN_lt {i t w : Int} (h : InC i t w) : cellN i t w < 400 := by
  obtain ⟨⟨a1, a2⟩, ⟨b1, b2⟩, c1, c2⟩ := h
  unfold cellN
  omega
structure TdOK (td : List (List Rec)) : Prop where
  len : td.length = 400
  c : ∀ i t w, InC i t w → cellT td i t w = [] ∨ ∃ x, cellT td i t w = [[.w x]] ∧ x.length ≤ 4096 ∧ InB x
def tdS (td : List (List Rec)) (i t w : Int) : Option (List Int) := if InC i t w then (match cellT td i t w with | [] => none | r :: _ => some (recW r 0)) else none
theorem tdS_in {td : List (List Rec)} {i t w : Int} (h : InC i t w) : tdS td i t w = (match cellT td i t w with | [] => none | r :: _ => some (recW r 0)) := if_pos h
theorem TdOK.some {td : List (List Rec)} (h : TdOK td) {i t w : Int} (hc : InC i t w) {x : List Int} (hx : tdS td i t w = some x) : cellT td i t w = [[.w x]] ∧ x.length ≤ 4096 ∧ InB x := by
  rw [tdS_in hc] at hx
  rcases h.c i t w hc with h1 | ⟨y, h1, h2⟩
  · rw [h1] at hx; cases hx
  · rw [h1] at hx
    have : y = x := by simpa [recW] using hx
    subst this
    exact ⟨h1, h2⟩
theorem TdOK.none {td : List (List Rec)} (h : TdOK td) {i t w : Int} (hc : InC i t w) (hx : tdS td i t w = none) : cellT td i t w = [] := by
  rw [tdS_in hc] at hx
  rcases h.c i t w hc with h1 | ⟨y, h1, h2⟩
  · exact h1
  · rw [h1] at hx; cases hx
theorem cell_set {td : List (List Rec)} (hl : td.length = 400) {i t w i' t' w' : Int} (h : InC i t w) (h' : InC i' t' w') (v : List Rec) : cellT (td.set (cellN i t w) v) i' t' w' = if i' = i ∧ t' = t ∧ w' = w then v else cellT td i' t' w' := by
  unfold cellT
  rw [List.getD_eq_getElem?_getD, List.getElem?_set]
  by_cases hc : i' = i ∧ t' = t ∧ w' = w
  · rw [if_pos ((cellN_inj h h').2 hc), if_pos (by have := cellN_lt h; omega), if_pos hc]
    rfl
  · rw [if_neg fun e => hc ((cellN_inj h h').1 e), if_neg hc, ← List.getD_eq_getElem?_getD]
theorem TdOK.set {td : List (List Rec)} (h : TdOK td) {i t w : Int} (hc : InC i t w) {x : List Int} (hl : x.length ≤ 4096) (hx : InB x) : TdOK (td.set (cellN i t w) [[.w x]]) := by
  refine ⟨by rw [List.length_set]; exact h.len, fun i' t' w' hc' => ?_⟩
  rw [cell_set h.len hc hc']
  split
  · exact Or.inr ⟨x, rfl, hl, hx⟩
  · exact h.c i' t' w' hc'
theorem tdS_set {td : List (List Rec)} (h : TdOK td) {i t w : Int} (hc : InC i t w) {x : List Int} (a b c : Int) : tdS (td.set (cellN i t w) [[.w x]]) a b c = if a = i ∧ b = t ∧ c = w then some x else tdS td a b c := by
  by_cases hc' : InC a b c
  · rw [tdS_in hc', tdS_in hc', cell_set h.len hc hc']
    by_cases he : a = i ∧ b = t ∧ c = w
    · rw [if_pos he, if_pos he]; rfl
    · rw [if_neg he, if_neg he]
  · have he : ¬ (a = i ∧ b = t ∧ c = w) := fun he => hc' (by obtain ⟨rfl, rfl, rfl⟩ := he; exact hc)
    rw [if_neg he]
    unfold tdS
    rw [if_neg hc', if_neg hc']
def ltS (l : Rec) : Int × MsT := (recI l 0, lM l)
def mlS (ml : List Rec) : List (Int × MsT) := ml.map ltS
theorem ltS_lt (j : Int) (m : MsT) : ltS (ltR j m) = (j, m) := rfl
theorem mem_lts {g : Nat} {i : Int} {m : MsT} {p : Int × MsT} : p ∈ mlS (ltsK i m g) ↔ Good g p.1 ∧ p.1 ≠ i ∧ p.2 = m := by
  obtain ⟨j, x⟩ := p
  unfold mlS ltsK
  simp only [List.mem_map, List.mem_flatMap, List.mem_range]
  constructor
  · rintro ⟨l, ⟨a, ha, h1⟩, h2⟩
    by_cases hc : ((a : Int) + 1) = i
    · rw [if_pos hc] at h1; cases h1
    · rw [if_neg hc, List.mem_singleton] at h1
      subst h1
      rw [ltS_lt] at h2
      cases h2
      exact ⟨⟨by omega, by omega⟩, hc, rfl⟩
  · rintro ⟨⟨h1, h2⟩, h3, rfl⟩
    refine ⟨ltR j x, ⟨(j - 1).toNat, by omega, ?_⟩, ltS_lt j x⟩
    have e : (((j - 1).toNat : Nat) : Int) + 1 = j := by omega
    rw [e, if_neg h3]
    exact List.mem_singleton.2 rfl
theorem mem_send {g : Nat} {i : Int} {ms : List Rec} {p : Int × MsT} : p ∈ mlS (sendM g i ms) ↔ ∃ r ∈ ms, Good g p.1 ∧ p.1 ≠ i ∧ p.2 = msOf r := by
  unfold sendM mlS
  rw [List.map_flatMap, List.mem_flatMap]
  constructor
  · rintro ⟨r, hr, h⟩
    exact ⟨r, hr, mem_lts.1 h⟩
  · rintro ⟨r, hr, h⟩
    exact ⟨r, hr, mem_lts.2 h⟩
theorem lts_len {i : Int} {m : MsT} : ∀ g : Nat, Good g i → (ltsK i m g).length + 1 = g
  | 0, h => by have := h.1; have := h.2; omega
  | g + 1, h => by
    rw [ltsK_succ, List.length_append]
    by_cases hc : ((g : Int) + 1) = i
    · rw [if_pos hc]
      have : ∀ k : Nat, (k : Int) < i → (ltsK i m k).length = k := by
        intro k hk
        induction k with
        | zero => rfl
        | succ k ih =>
          rw [ltsK_succ, List.length_append, ih (by omega), if_neg (by omega)]
          rfl
      rw [this g (by omega)]
      rfl
    · rw [if_neg hc]
      have := lts_len g ⟨h.1, by have := h.2; omega⟩ (m := m)
      show _ + 1 + 1 = _
      omega
theorem send_len {g : Nat} {i : Int} (h : Good g i) (ms : List Rec) : (sendM g i ms).length = ms.length * (g - 1) := by
  induction ms with
  | nil => simp [sendM]
  | cons r ms ih =>
    have := lts_len (m := msOf r) g h
    unfold sendM at ih ⊢
    rw [List.flatMap_cons, List.length_append, ih, List.length_cons, Nat.add_mul, Int.toNat_natCast]
    omega
theorem send_bd {g i : Int} {ms : List Rec} {P : MsT → Prop} (h : ∀ r ∈ ms, P (msOf r)) : ∀ l ∈ sendM g i ms, P (lM l) := by
  intro l hl
  unfold sendM at hl
  obtain ⟨r, hr, hl⟩ := List.mem_flatMap.1 hl
  unfold ltsK at hl
  obtain ⟨a, _, hl⟩ := List.mem_flatMap.1 hl
  split at hl
  · cases hl
  · rw [List.mem_singleton] at hl
    subst hl
    exact h r hr
def tkS (es : List (Rec × Ob)) (i t w : Int) : Tk := if 1 ≤ i then absT (ofT ((obI es i).c 0) [.i t, .i w]) else ⟨false, false, false, fun _ => none, fun _ => none⟩
theorem tkS_in {es : List (Rec × Ob)} {i t w : Int} (h : 1 ≤ i) : tkS es i t w = absT (ofT ((obI es i).c 0) [.i t, .i w]) := if_pos h
theorem keyT_iff {t w t' w' : Int} : (([.i t', .i w'] : Rec) = [.i t, .i w]) ↔ t' = t ∧ w' = w := by simp
def sdS (sd : List Rec) : List (Int × Int × List Int) := sd.map fun s => (recI s 1, recI s 2, recW s 3)
def nsS (S : PlT) : Ns := ⟨tkS S.1.1, mlS S.1.2.1, sdS S.2, tdS S.1.2.2⟩
theorem wfN_of {n : Nat} {e : List (Rec × Ob)} {m : MsT} {s' : S7} (hk : s'.t.key = m.key) (he : WfN n s'.t.ee) (hq : WfN n s'.t.rr) (h : ∀ key, WfN n (ofT e key).ee ∧ WfN n (ofT e key).rr) (key : Rec) : WfN n (ofT (esOf e m s') key).ee ∧ WfN n (ofT (esOf e m s') key).rr := by
  rw [ofT_esOf hk]
  split
  · exact ⟨he, hq⟩
  · exact h key
structure SrcOK (n g : Nat) (A : Ns) (i : Int) (m : MsT) : Prop where
  c : cntP (mbN n) m
  b : InB m.bd
  f : m.fr ≠ i ∨ m.k = 1
  s1 : m.k = 1 → m.fr = m.wh → Good g m.wh → (m.wh, m.tp, m.bd) ∈ A.sd
  s2 : m.k = 2 → Good g m.fr → (A.tk m.fr m.tp m.wh).e m.fr = some m.bd
  s3 : m.k = 3 → Good g m.fr → (A.tk m.fr m.tp m.wh).q m.fr = some m.bd
structure NetOK (n g f half : Nat) (A : Ns) (es : List (Rec × Ob)) (td : List (List Rec)) (ml0 : List Rec) (i : Int) (m : MsT) (s' : S7) (ms0 ms1 : List Rec) : Prop where
  ms : s'.ms = ms0 ++ ms1
  hb : HubsOK n g (putM es i (esOf ((obI es i).c 0) m s'))
  tk : TdOK (tellM i s'.ts td)
  inv : Inv n g f half ⟨tkS (putM es i (esOf ((obI es i).c 0) m s')), mlS (ml0 ++ sendM g i ms1), A.sd, tdS (tellM i s'.ts td)⟩
  un : un n g ⟨tkS (putM es i (esOf ((obI es i).c 0) m s')), mlS (ml0 ++ sendM g i ms1), A.sd, tdS (tellM i s'.ts td)⟩ + ms1.length ≤ un n g A
  fr : ∀ r ∈ ms1, (msOf r).fr = i ∧ InB (msOf r).bd ∧ (msOf r).bd.length ≤ 4096
  ts : s'.ts = [] ∨ (s'.ts = [m.tr] ∧ td.getD (cellN i m.tp m.wh) [] = [])
theorem hear_net {n g f half : Nat} (hp : Par n g f half) (hn : Nums n f half) {es : List (Rec × Ob)} {td : List (List Rec)} (hc : HubsOK n g es) (ht : TdOK td) {A : Ns} (hA : Inv n g f half A) (htk : A.tk = tkS es) (htd : A.td = tdS td) {i : Int} (hi : Good g i) {m : MsT} (hm : SrcOK n g A i m)
    (ms0 : List Rec) {ml0 : List Rec} (sub : ∀ p ∈ mlS ml0, p ∈ A.ml) (sup : ∀ p ∈ A.ml, p ∈ mlS ml0 ∨ p = (i, m)) :
    ∃ ms1, NetOK n g f half A es td ml0 i m (hear2M i (mbN n) m (s0Of ((obI es i).c 0) m ms0 [])).1 ms0 ms1 := by
  have hgn := hp.gn
  have hn9 := hp.n9
  have hin : 1 ≤ i ∧ i ≤ n := ⟨hi.1, by have := hi.2; omega⟩
  have hT : absT (s0Of ((obI es i).c 0) m ms0 []).t = A.tk i m.tp m.wh := by
    rw [htk, tkS_in hi.1]
    rfl
  have hl : Loc n f half i (absT (s0Of ((obI es i).c 0) m ms0 []).t) := by rw [hT]; exact hA.loc i _ _ hi
  have ok := hear2_abs hn hin hm.c hm.b (s := s0Of ((obI es i).c 0) m ms0 []) (hc.e i m.key hi) (hc.q i m.key hi) hl hm.f
  have hs := hear_hs (n := n) (f := f) (half := half) hl hm.c.1 hm.f
  rw [← ok.a, hT] at hs
  generalize (hear2M i (mbN n) m (s0Of ((obI es i).c 0) m ms0 [])).1 = s' at ok hs
  have hwh : 1 ≤ m.wh ∧ m.wh ≤ n := mbN_mem.1 hm.c.2.2.2.2.2
  have htp : 1 ≤ m.tp ∧ m.tp ≤ 3 := ⟨hm.c.2.1, hm.c.2.2.1⟩
  have hC : InC i m.tp m.wh := ⟨⟨hi.1, by omega⟩, htp, hwh.1, by omega⟩
  have hk : s'.t.key = m.key := ok.k.trans (ofT_key _ _)
  have hb0 : (A.tk i m.tp m.wh).b = (s0Of ((obI es i).c 0) m ms0 []).t.b := by rw [← hT]; rfl
  have hr0 : (A.tk i m.tp m.wh).r = (s0Of ((obI es i).c 0) m ms0 []).t.r := by rw [← hT]; rfl
  have ht0 : (A.tk i m.tp m.wh).t = (s0Of ((obI es i).c 0) m ms0 []).t.t := by rw [← hT]; rfl
  have okms := ok.ms
  have okts := ok.ts
  rw [← hb0, ← hr0] at okms
  rw [← ht0] at okts
  have tsE : s'.ts = if (A.tk i m.tp m.wh).t = false ∧ s'.t.t = true then [m.tr] else [] := okts
  have hub := hc.put hi (wfN_of hk ok.e ok.q fun key => ⟨hc.e i key hi, hc.q i key hi⟩)
  -- what is told
  have htell : tellM i s'.ts td = if (A.tk i m.tp m.wh).t = false ∧ s'.t.t = true then td.set (cellN i m.tp m.wh) [[.w m.bd]] else td := by
    rw [tsE]
    split <;> rfl
  have htdk : TdOK (tellM i s'.ts td) := by
    rw [htell]
    split
    · exact ht.set hC hm.c.2.2.2.1 hm.b
    · exact ht
  refine ⟨(if (A.tk i m.tp m.wh).b = false ∧ s'.t.b = true then [(sayM i 2 m).r] else []) ++ (if (A.tk i m.tp m.wh).r = false ∧ s'.t.r = true then [(sayM i 3 m).r] else []), ?_⟩
  generalize hms1 : (if (A.tk i m.tp m.wh).b = false ∧ s'.t.b = true then [(sayM i 2 m).r] else []) ++ (if (A.tk i m.tp m.wh).r = false ∧ s'.t.r = true then [(sayM i 3 m).r] else []) = ms1
  have hmem : ∀ r, r ∈ ms1 ↔ ((A.tk i m.tp m.wh).b = false ∧ s'.t.b = true) ∧ r = (sayM i 2 m).r ∨ ((A.tk i m.tp m.wh).r = false ∧ s'.t.r = true) ∧ r = (sayM i 3 m).r := fun r => by
    rw [← hms1, List.mem_append]
    constructor
    · rintro (h | h)
      · split at h
        · rename_i hc'; exact Or.inl ⟨hc', List.mem_singleton.1 h⟩
        · cases h
      · split at h
        · rename_i hc'; exact Or.inr ⟨hc', List.mem_singleton.1 h⟩
        · cases h
    · rintro (⟨h1, h2⟩ | ⟨h1, h2⟩)
      · exact Or.inl (by rw [if_pos h1, h2]; exact List.mem_singleton.2 rfl)
      · exact Or.inr (by rw [if_pos h1, h2]; exact List.mem_singleton.2 rfl)
  have hlen : ms1.length = outN (A.tk i m.tp m.wh) (absT s'.t) := by
    rw [← hms1, List.length_append]
    unfold outN
    congr 1
    · show (if _ then _ else _ : List Rec).length = if (A.tk i m.tp m.wh).b = false ∧ s'.t.b = true then 1 else 0
      split <;> rfl
    · show (if _ then _ else _ : List Rec).length = if (A.tk i m.tp m.wh).r = false ∧ s'.t.r = true then 1 else 0
      split <;> rfl
  have hear : Hear n g f half i m (absT s'.t) (mlS ml0) (mlS (sendM g i ms1)) A ⟨tkS (putM es i (esOf ((obI es i).c 0) m s')), mlS (ml0 ++ sendM g i ms1), A.sd, tdS (tellM i s'.ts td)⟩ := by
    refine ⟨hi, htp, hwh, hm.s1, hm.s2, hm.s3, hs, sub, sup, fun p => ?_, fun a t w => ?_, ?_, rfl, fun a t w => ?_⟩
    · rw [mem_send]
      unfold OutOK
      constructor
      · rintro ⟨r, hr, h1, h2, h3⟩
        rcases (hmem r).1 hr with ⟨h4, rfl⟩ | ⟨h4, rfl⟩
        · exact ⟨⟨h1, h2⟩, Or.inl ⟨h4.1, h4.2, h3⟩⟩
        · exact ⟨⟨h1, h2⟩, Or.inr ⟨h4.1, h4.2, h3⟩⟩
      · rintro ⟨⟨h1, h2⟩, ⟨h3, h4, h5⟩ | ⟨h3, h4, h5⟩⟩
        · exact ⟨_, (hmem _).2 (Or.inl ⟨⟨h3, h4⟩, rfl⟩), h1, h2, h5⟩
        · exact ⟨_, (hmem _).2 (Or.inr ⟨⟨h3, h4⟩, rfl⟩), h1, h2, h5⟩
    · show tkS _ a t w = if a = i ∧ t = m.tp ∧ w = m.wh then absT s'.t else A.tk a t w
      rw [htk]
      by_cases ha : 1 ≤ a
      · rw [tkS_in ha, tkS_in ha, obI_put hi.1 ha]
        by_cases hai : a = i
        · subst hai
          rw [if_pos rfl]
          show absT (ofT (esOf ((obI es a).c 0) m s') [.i t, .i w]) = _
          rw [ofT_esOf hk]
          show absT (if ([.i t, .i w] : Rec) = [.i m.tp, .i m.wh] then s'.t else ofT ((obI es a).c 0) [.i t, .i w]) = _
          by_cases hkey : t = m.tp ∧ w = m.wh
          · rw [if_pos (keyT_iff.2 hkey), if_pos ⟨rfl, hkey⟩]
          · rw [if_neg fun e => hkey (keyT_iff.1 e), if_neg fun e => hkey e.2]
        · rw [if_neg hai, if_neg fun e => hai e.1]
      · have : ¬ (a = i ∧ t = m.tp ∧ w = m.wh) := fun e => ha (e.1 ▸ hi.1)
        rw [if_neg this]
        unfold tkS
        rw [if_neg ha, if_neg ha]
    · show mlS (ml0 ++ sendM g i ms1) = _
      unfold mlS
      rw [List.map_append]
    · show tdS (tellM i s'.ts td) a t w = if (a = i ∧ t = m.tp ∧ w = m.wh) ∧ (A.tk i m.tp m.wh).t = false ∧ s'.t.t = true then some m.bd else A.td a t w
      rw [htell, htd]
      by_cases h1 : (A.tk i m.tp m.wh).t = false ∧ s'.t.t = true
      · rw [if_pos h1, tdS_set ht hC]
        by_cases h2 : a = i ∧ t = m.tp ∧ w = m.wh
        · rw [if_pos h2, if_pos ⟨h2, h1⟩]
        · rw [if_neg h2, if_neg fun e => h2 e.1]
      · rw [if_neg h1, if_neg fun e => h1 e.2]
  refine ⟨?_, hub, htdk, hear_inv hp hA hear, ?_, fun r hr => ?_, ?_⟩
  · rw [okms, ← hms1, List.append_assoc]
    rfl
  · rw [hlen]
    exact hear_un hear
  · rcases (hmem r).1 hr with ⟨_, rfl⟩ | ⟨_, rfl⟩
    · exact ⟨rfl, hm.b, hm.c.2.2.2.1⟩
    · exact ⟨rfl, hm.b, hm.c.2.2.2.1⟩
  · rw [tsE]
    by_cases h1 : (A.tk i m.tp m.wh).t = false ∧ s'.t.t = true
    · rw [if_pos h1]
      refine Or.inr ⟨rfl, ?_⟩
      refine ht.none hC ?_
      rw [← htd]
      cases hx : A.td i m.tp m.wh with
      | none => rfl
      | some x =>
        have := (hA.tt i m.tp m.wh hi).2 (by rw [hx]; simp)
        rw [h1.1] at this
        cases this
    · rw [if_neg h1]
      exact Or.inl rfl
end Go.Num
namespace Go.Num
open Go.Abs
theorem Inv.same {n g f half : Nat} {S : Ns} (h : Inv n g f half S) {ml : List (Int × MsT)} (h1 : ∀ p ∈ ml, p ∈ S.ml) (h2 : ∀ p ∈ S.ml, p ∈ ml) : Inv n g f half { S with ml := ml } where
  loc := h.loc
  es := h.es
  qs := h.qs
  ei := h.ei
  qq := h.qq
  tt := h.tt
  tq := h.tq
  lt := fun p hp => by
    obtain ⟨a1, a2, a3, a4, a5, a6, a7, a8, a9⟩ := h.lt p (h1 p hp)
    exact ⟨a1, a2, a3, a4, a5, a6, a7, a8, a9⟩
  sg := h.sg
  su := h.su
  w1 := fun s hs i hi => (h.w1 s hs i hi).imp_right fun ⟨p, a, b⟩ => ⟨p, h2 p a, b⟩
  w2 := fun i j t w hi hj hx => (h.w2 i j t w hi hj hx).imp_right fun ⟨p, a, b⟩ => ⟨p, h2 p a, b⟩
  w3 := fun i j t w hi hj hx => (h.w3 i j t w hi hj hx).imp_right fun ⟨p, a, b⟩ => ⟨p, h2 p a, b⟩
theorem say_inv {n g f half : Nat} {S : Ns} (h : Inv n g f half S) {i t : Int} {m : MsT} (hi : Good g i) (hin : 1 ≤ i ∧ i ≤ n) (ht : 1 ≤ t ∧ t ≤ 3) (hno : ∀ s ∈ S.sd, s.1 = i → s.2.1 = t → False) (hk : m.k = 1) (hf : m.fr = i) (hw : m.wh = i) (htp : m.tp = t)
    {ml : List (Int × MsT)} (hm : ∀ p, p ∈ ml ↔ p ∈ S.ml ∨ (Good g p.1 ∧ p.2 = m)) : Inv n g f half { S with ml := ml, sd := S.sd ++ [(i, t, m.bd)] } where
  loc := h.loc
  es := h.es
  qs := h.qs
  ei := fun j t w x hj hw hx => List.mem_append_left _ (h.ei j t w x hj hw hx)
  qq := h.qq
  tt := h.tt
  tq := h.tq
  lt := fun p hp => by
    rcases (hm p).1 hp with hp | ⟨h1, h2⟩
    · obtain ⟨a1, a2, a3, a4, a5, a6, a7, a8, a9⟩ := h.lt p hp
      exact ⟨a1, a2, a3, a4, fun hk => ⟨(a5 hk).1, List.mem_append_left _ (a5 hk).2⟩, a6, a7, a8, a9⟩
    · obtain ⟨j, x⟩ := p
      simp only at h1 h2
      subst h2
      exact ⟨h1, by rw [hf]; exact hi, Or.inr hk, Or.inl hk, fun _ => ⟨by rw [hf, hw], List.mem_append_right _ (by rw [hw, htp]; exact List.mem_singleton.2 rfl)⟩, fun h => (by simp only at h; omega), fun h => (by simp only at h; omega), (by simp only [htp]; exact ht), (by simp only [hw]; exact hin)⟩
  sg := fun s hs => by
    rcases List.mem_append.1 hs with hs | hs
    · exact h.sg s hs
    · rw [List.mem_singleton.1 hs]
      exact ⟨hi, ht⟩
  su := fun s hs s' hs' e1 e2 => by
    rcases List.mem_append.1 hs with hs | hs <;> rcases List.mem_append.1 hs' with hs' | hs'
    · exact h.su s hs s' hs' e1 e2
    · rw [List.mem_singleton.1 hs'] at e1 e2
      exact (hno s hs e1 e2).elim
    · rw [List.mem_singleton.1 hs] at e1 e2
      exact (hno s' hs' e1.symm e2.symm).elim
    · rw [List.mem_singleton.1 hs, List.mem_singleton.1 hs']
  w1 := fun s hs a ha => by
    rcases List.mem_append.1 hs with hs | hs
    · exact (h.w1 s hs a ha).imp_right fun ⟨p, a, b⟩ => ⟨p, (hm p).2 (Or.inl a), b⟩
    · rw [List.mem_singleton.1 hs]
      exact Or.inr ⟨(a, m), (hm _).2 (Or.inr ⟨ha, rfl⟩), rfl, hk, hf, htp, hw⟩
  w2 := fun i j t w hi hj hx => (h.w2 i j t w hi hj hx).imp_right fun ⟨p, a, b⟩ => ⟨p, (hm p).2 (Or.inl a), b⟩
  w3 := fun i j t w hi hj hx => (h.w3 i j t w hi hj hx).imp_right fun ⟨p, a, b⟩ => ⟨p, (hm p).2 (Or.inl a), b⟩
structure CI (n g f half : Nat) (S : PlT) : Prop where
  hb : HubsOK n g S.1.1
  td : TdOK S.1.2.2
  inv : Inv n g f half (nsS S)
  ml : ∀ l ∈ S.1.2.1, InB (lM l).bd ∧ (lM l).bd.length ≤ 4096
  sd : ∀ s ∈ S.2, (recW s 3).length ≤ 4096 ∧ InB (recW s 3)
def pot (n g : Nat) (S : PlT) : Nat := S.1.2.1.length + (g - 1) * un n g (nsS S)
section
variable {n g f half : Nat}
theorem net_ci {A : Ns} {es : List (Rec × Ob)} {td : List (List Rec)} {ml0 : List Rec} {i : Int} {m : MsT} {s' : S7} {ms0 ms1 : List Rec} (h : NetOK n g f half A es td ml0 i m s' ms0 ms1) {sd : List Rec} (hsd : A.sd = sdS sd) (hs : ∀ s ∈ sd, (recW s 3).length ≤ 4096 ∧ InB (recW s 3))
    (hml : ∀ l ∈ ml0, InB (lM l).bd ∧ (lM l).bd.length ≤ 4096) : CI n g f half ((putM es i (esOf ((obI es i).c 0) m s'), ml0 ++ sendM g i ms1, tellM i s'.ts td), sd) := by
  refine ⟨h.hb, h.tk, ?_, fun l hl => ?_, hs⟩
  · have := h.inv
    rw [hsd] at this
    exact this
  · rcases List.mem_append.1 hl with hl | hl
    · exact hml l hl
    · exact send_bd (P := fun m => InB m.bd ∧ m.bd.length ≤ 4096) (fun r hr => (h.fr r hr).2) l hl
theorem net_pot {A : Ns} {es : List (Rec × Ob)} {td : List (List Rec)} {ml0 : List Rec} {i : Int} {m : MsT} {s' : S7} {ms0 ms1 : List Rec} (h : NetOK n g f half A es td ml0 i m s' ms0 ms1) (hi : Good g i) (sd : List Rec) :
    pot n g ((putM es i (esOf ((obI es i).c 0) m s'), ml0 ++ sendM g i ms1, tellM i s'.ts td), sd) ≤ ml0.length + (g - 1) * un n g A := by
  have h1 : un n g (nsS ((putM es i (esOf ((obI es i).c 0) m s'), ml0 ++ sendM g i ms1, tellM i s'.ts td), sd)) + ms1.length ≤ un n g A := h.un
  unfold pot
  show (ml0 ++ sendM g i ms1).length + _ ≤ _
  rw [List.length_append, send_len hi]
  have h2 := Nat.mul_le_mul_left (g - 1) h1
  rw [Nat.mul_add, Nat.mul_comm (g - 1) ms1.length] at h2
  omega
theorem net_dn (hp : Par n g f half) {A : Ns} {es : List (Rec × Ob)} {td : List (List Rec)} {ml0 : List Rec} {i : Int} {m : MsT} {s' : S7} {ms0 ms1 : List Rec} (h : NetOK n g f half A es td ml0 i m s' ms0 ms1) (hi : Good g i) (hm : cntP (mbN n) m) (h0 : ∀ r ∈ ms0, (msOf r).fr = i)
    {ml : List Rec} (hl : ml.length ≤ 1000000) (hms : s'.ms.length ≤ 1000) : DnOK n g i ml td s'.ms s'.ts ∧ s'.ts.length ≤ 1000000 := by
  have hgn := hp.gn
  have hn9 := hp.n9
  have hi1 := hi.1
  have hi2 := hi.2
  have hwh : 1 ≤ m.wh ∧ m.wh ≤ n := mbN_mem.1 hm.2.2.2.2.2
  refine ⟨⟨⟨by omega, by omega, by omega, by omega, by omega⟩, ⟨hl, hms⟩, fun k hk => ?_, fun k hk => ?_⟩, ?_⟩
  · have hmem : s'.ms.getD k [] ∈ s'.ms := by
      rw [List.getD_eq_getElem?_getD, List.getElem?_eq_getElem hk]
      exact List.getElem_mem hk
    generalize s'.ms.getD k [] = r at hmem
    rw [h.ms] at hmem
    rcases List.mem_append.1 hmem with h1 | h1
    · exact h0 r h1
    · exact (h.fr r h1).1
  · rcases h.ts with h1 | ⟨h1, h2⟩
    · rw [h1] at hk; cases hk
    · rw [h1] at hk ⊢
      have : k = 0 := by simp at hk; exact hk
      subst this
      exact ⟨⟨hm.2.1, hm.2.2.1⟩, ⟨hwh.1, hwh.2⟩, h2⟩
  · rcases h.ts with h1 | ⟨h1, _⟩ <;> rw [h1] <;> simp
theorem goM_eq {es : List (Rec × Ob)} (h : HubsOK n g es) {i : Int} (hi : Good g i) (m : MsT) : goM es i m = inM i (mbN n) ((obI es i).c 0) m := by
  unfold goM
  rw [h.me i hi, h.mb i hi]
theorem rest_mem {ml : List Rec} {k : Nat} {l : Rec} (h : l ∈ restM ml k) : l ∈ ml := by
  unfold restM at h
  rcases List.mem_append.1 h with h | h
  · exact List.mem_of_mem_take h
  · exact List.mem_of_mem_drop h
theorem rest_or {ml : List Rec} {k : Nat} {l : Rec} (hk : k < ml.length) (h : l ∈ ml) : l ∈ restM ml k ∨ l = ml.getD k [] := by
  have e : ml = ml.take k ++ (ml.getD k [] :: ml.drop (k + 1)) := by
    rw [List.getD_eq_getElem?_getD, List.getElem?_eq_getElem hk]
    simp
  rw [e] at h
  unfold restM
  rcases List.mem_append.1 h with h | h
  · exact Or.inl (List.mem_append_left _ h)
  · rcases List.mem_cons.1 h with h | h
    · exact Or.inr h
    · exact Or.inl (List.mem_append_right _ h)
theorem rest_len {ml : List Rec} {k : Nat} (hk : k < ml.length) : (restM ml k).length + 1 = ml.length := by
  unfold restM
  rw [List.length_append, List.length_take, List.length_drop]
  omega
theorem getD_mem {ml : List Rec} {k : Nat} (hk : k < ml.length) : ml.getD k [] ∈ ml := by
  rw [List.getD_eq_getElem?_getD, List.getElem?_eq_getElem hk]
  exact List.getElem_mem hk
theorem good_n (hp : Par n g f half) {i : Int} (hi : Good g i) : 1 ≤ i ∧ i ≤ n := ⟨hi.1, by have := hi.2; have := hp.gn; omega⟩
theorem out_len {A : Ns} {es : List (Rec × Ob)} {td : List (List Rec)} {ml0 : List Rec} {i : Int} {m : MsT} {s' : S7} {ms0 ms1 : List Rec} (h : NetOK n g f half A es td ml0 i m s' ms0 ms1) (hp : Par n g f half) (h0 : ms0.length ≤ 1) : s'.ms.length ≤ 1000 := by
  have h1 := h.un
  have h2 := un_le n g A
  have h3 := hp.n9
  have h4 := hp.gn
  have h5 : g * (3 * n) ≤ 9 * (3 * 9) := Nat.mul_le_mul (by omega) (by omega)
  rw [h.ms, List.length_append]
  omega
theorem dl_ok (hp : Par n g f half) (hn : Nums n f half) {S : PlT} (h : CI n g f half S) {k : Nat} (hk : k < S.1.2.1.length) (hl : S.1.2.1.length ≤ 1000000) :
    DlOK n g S.1.1 S.1.2.1 S.1.2.2 k ∧ CI n g f half (dlM g S.1.1 S.1.2.1 S.1.2.2 k, S.2) ∧ pot n g (dlM g S.1.1 S.1.2.1 S.1.2.2 k, S.2) + 1 ≤ pot n g S := by
  obtain ⟨⟨es, ml, td⟩, sd⟩ := S
  simp only at hk hl ⊢
  have hmem := getD_mem hk
  have hrl := rest_len hk
  obtain ⟨hb, hbl⟩ := h.ml _ hmem
  have hlt := h.inv.lt (ltS (ml.getD k [])) (List.mem_map_of_mem hmem)
  have hi : Good g (recI (ml.getD k []) 0) := hlt.to
  have hc : cntP (mbN n) (lM (ml.getD k [])) := ⟨hlt.k, hlt.tp.1, hlt.tp.2, hbl, mbN_mem.2 (good_n hp hlt.fr), mbN_mem.2 hlt.wh⟩
  have hsrc : SrcOK n g (nsS ((es, ml, td), sd)) (recI (ml.getD k []) 0) (lM (ml.getD k [])) := ⟨hc, hb, hlt.ne, fun h1 _ _ => (hlt.k1 h1).2, fun h1 _ => hlt.k2 h1, fun h1 _ => hlt.k3 h1⟩
  obtain ⟨ms1, hnet⟩ := hear_net hp hn (es := es) (td := td) h.hb h.td h.inv rfl rfl hi hsrc [] (ml0 := restM ml k) (fun p hp => by
    obtain ⟨l, hl, rfl⟩ := List.mem_map.1 hp
    exact List.mem_map_of_mem (rest_mem hl)) (fun p hp => by
    obtain ⟨l, hl, rfl⟩ := List.mem_map.1 hp
    rcases rest_or hk hl with h1 | h1
    · exact Or.inl (List.mem_map_of_mem h1)
    · right; rw [h1]; rfl)
  have hgo := goM_eq h.hb hi (lM (ml.getD k []))
  rw [inM_yes hc] at hgo
  have hms := hnet.ms
  rw [List.nil_append] at hms
  have hdn := net_dn hp hnet hi hc (fun r hr => by cases hr) (ml := restM ml k) (by omega) (out_len hnet hp (by simp))
  have hdl : dlM g es ml td k = (putM es (recI (ml.getD k []) 0) (esOf ((obI es (recI (ml.getD k []) 0)).c 0) (lM (ml.getD k [])) (hear2M (recI (ml.getD k []) 0) (mbN n) (lM (ml.getD k [])) (s0Of ((obI es (recI (ml.getD k []) 0)).c 0) (lM (ml.getD k [])) [] [])).1), restM ml k ++ sendM g (recI (ml.getD k []) 0) ms1, tellM (recI (ml.getD k []) 0) (hear2M (recI (ml.getD k []) 0) (mbN n) (lM (ml.getD k [])) (s0Of ((obI es (recI (ml.getD k []) 0)).c 0) (lM (ml.getD k [])) [] [])).1.ts td) := by
    unfold dlM
    rw [hgo, hms]
  have hhu := h.hb.hu hp.n9 (by have := hp.gn; omega) hi
  refine ⟨⟨⟨hk, hl⟩, hhu, ⟨hb, Nat.le_trans hbl (by decide)⟩, ?_⟩, ?_, ?_⟩
  · rw [hgo]
    exact hdn
  · rw [hdl]
    exact net_ci hnet rfl h.sd fun l hl => h.ml l (rest_mem hl)
  · rw [hdl]
    have := net_pot hnet hi sd
    unfold pot at this ⊢
    simp only at this ⊢
    omega
theorem dup_ok {S : PlT} (h : CI n g f half S) {k : Nat} (hk : k < S.1.2.1.length) : CI n g f half ((S.1.1, S.1.2.1 ++ [dupR (S.1.2.1.getD k [])], S.1.2.2), S.2) ∧ pot n g ((S.1.1, S.1.2.1 ++ [dupR (S.1.2.1.getD k [])], S.1.2.2), S.2) = pot n g S + 1 := by
  obtain ⟨⟨es, ml, td⟩, sd⟩ := S
  simp only at hk ⊢
  have hmem := getD_mem hk
  generalize ml.getD k [] = l0 at hmem
  have hd : ltS (dupR l0) = ltS l0 := rfl
  refine ⟨⟨h.hb, h.td, ?_, fun l hl => ?_, h.sd⟩, ?_⟩
  · refine h.inv.same (ml := mlS (ml ++ [dupR l0])) (fun p hp => ?_) (fun p hp => ?_)
    · obtain ⟨l, hl, rfl⟩ := List.mem_map.1 hp
      rcases List.mem_append.1 hl with hl | hl
      · exact List.mem_map_of_mem hl
      · rw [List.mem_singleton.1 hl, hd]
        exact List.mem_map_of_mem hmem
    · obtain ⟨l, hl, rfl⟩ := List.mem_map.1 hp
      exact List.mem_map_of_mem (List.mem_append_left _ hl)
  · rcases List.mem_append.1 hl with hl | hl
    · exact h.ml l hl
    · rw [List.mem_singleton.1 hl]
      exact h.ml l0 hmem
  · show (ml ++ [dupR l0]).length + (g - 1) * un n g (nsS ((es, ml, td), sd)) = ml.length + (g - 1) * un n g (nsS ((es, ml, td), sd)) + 1
    rw [List.length_append]
    simp only [List.length_cons, List.length_nil]
    omega
theorem fa_ok (hp : Par n g f half) (hn : Nums n f half) {S : PlT} (h : CI n g f half S) (hl : S.1.2.1.length ≤ 1000000) {i : Int} (hi : Good g i) {m : MsT} (hb : InB m.bd) (hf : (g : Int) < m.fr) :
    HuOK S.1.1 i ∧ (DnOK n g i S.1.2.1 S.1.2.2 (goM S.1.1 i m).2.1 (goM S.1.1 i m).2.2 ∧ (goM S.1.1 i m).2.2.length ≤ 1000000) ∧ CI n g f half (putP g S.1.1 S.1.2.1 S.1.2.2 i (goM S.1.1 i m), S.2) ∧ pot n g (putP g S.1.1 S.1.2.1 S.1.2.2 i (goM S.1.1 i m), S.2) ≤ pot n g S := by
  obtain ⟨⟨es, ml, td⟩, sd⟩ := S
  simp only at hl ⊢
  have hgn := hp.gn
  have hn9 := hp.n9
  have hi2 := hi.2
  have hhu := h.hb.hu hp.n9 (by omega) hi
  have hgo := goM_eq h.hb hi m
  refine ⟨hhu, ?_⟩
  by_cases hc : cntP (mbN n) m
  · have hnf : m.fr ≠ i := fun e => by omega
    have hng : ¬ Good g m.fr := fun e => by have := e.2; omega
    have hsrc : SrcOK n g (nsS ((es, ml, td), sd)) i m := ⟨hc, hb, Or.inl hnf, fun _ h1 h2 => (hng (h1 ▸ h2)).elim, fun _ h1 => (hng h1).elim, fun _ h1 => (hng h1).elim⟩
    obtain ⟨ms1, hnet⟩ := hear_net hp hn (es := es) (td := td) h.hb h.td h.inv rfl rfl hi hsrc [] (ml0 := ml) (fun p hp => hp) (fun p hp => Or.inl hp)
    rw [inM_yes hc] at hgo
    have hms := hnet.ms
    rw [List.nil_append] at hms
    have hdn := net_dn hp hnet hi hc (fun r hr => by cases hr) (ml := ml) hl (out_len hnet hp (by simp))
    have hci := net_ci hnet rfl h.sd h.ml
    have hpt := net_pot hnet hi sd
    rw [hgo]
    unfold putP
    simp only
    rw [hms] at hdn ⊢
    exact ⟨hdn, hci, hpt⟩
  · rw [inM_no hc] at hgo
    have e1 : tkS (putM es i ((obI es i).c 0)) = tkS es := by
      funext a t w
      by_cases ha : 1 ≤ a
      · rw [tkS_in ha, tkS_in ha, obI_put hi.1 ha]
        by_cases hai : a = i
        · subst hai
          rw [if_pos rfl]
          rfl
        · rw [if_neg hai]
      · unfold tkS
        rw [if_neg ha, if_neg ha]
    have e2 : putP g es ml td i (goM es i m) = (putM es i ((obI es i).c 0), ml, td) := by
      rw [hgo]
      unfold putP
      show (_, ml ++ [], _) = _
      rw [List.append_nil]
      rfl
    have e3 : nsS ((putM es i ((obI es i).c 0), ml, td), sd) = nsS ((es, ml, td), sd) := by
      unfold nsS
      simp only [e1]
    rw [e2, hgo]
    refine ⟨⟨⟨⟨by have := hi.1; omega, by omega, by omega, by omega, by omega⟩, ⟨hl, by simp⟩, fun k hk => (by cases hk), fun k hk => (by cases hk)⟩, by simp⟩, ⟨h.hb.put hi fun key => ⟨h.hb.e i key hi, h.hb.q i key hi⟩, h.td, ?_, h.ml, h.sd⟩, ?_⟩
    · rw [e3]; exact h.inv
    · unfold pot
      rw [e3]
      exact Nat.le_refl _
theorem sa_ok (hp : Par n g f half) (hn : Nums n f half) {S : PlT} (h : CI n g f half S) (hl : S.1.2.1.length ≤ 1000000) {i t : Int} (hi : Good g i) (ht : 1 ≤ t ∧ t ≤ 3) {b : List Int} (hb : InB b) (hbl : b.length ≤ 4096) (hno : twP S.2 i t = false) :
    HuOK S.1.1 i ∧ (DnOK n g i S.1.2.1 S.1.2.2 (outS S.1.1 i t b).2.1 (outS S.1.1 i t b).2.2 ∧ (outS S.1.1 i t b).2.2.length ≤ 1000000) ∧ CI n g f half (putP g S.1.1 S.1.2.1 S.1.2.2 i (outS S.1.1 i t b), S.2 ++ [sdR i t b]) ∧ pot n g (putP g S.1.1 S.1.2.1 S.1.2.2 i (outS S.1.1 i t b), S.2 ++ [sdR i t b]) ≤ pot n g S + (g - 1) := by
  obtain ⟨⟨es, ml, td⟩, sd⟩ := S
  simp only at hl hno ⊢
  have hgn := hp.gn
  have hn9 := hp.n9
  have hi1 := hi.1
  have hi2 := hi.2
  have hhu := h.hb.hu hp.n9 (by omega) hi
  refine ⟨hhu, ?_⟩
  have hc : cntP (mbN n) (initM i t b) := ⟨Or.inl rfl, ht.1, ht.2, hbl, mbN_mem.2 (good_n hp hi), mbN_mem.2 (good_n hp hi)⟩
  have hsd : sdS (sd ++ [sdR i t b]) = sdS sd ++ [(i, t, b)] := by
    unfold sdS
    rw [List.map_append]
    rfl
  have hml : mlS (ml ++ sendM g i [(initM i t b).r]) = mlS ml ++ mlS (sendM g i [(initM i t b).r]) := by
    unfold mlS
    rw [List.map_append]
  have hA : Inv n g f half ⟨tkS es, mlS (ml ++ sendM g i [(initM i t b).r]) ++ [(i, initM i t b)], sdS (sd ++ [sdR i t b]), tdS td⟩ := by
    rw [hsd]
    refine say_inv (S := nsS ((es, ml, td), sd)) (m := initM i t b) h.inv hi (good_n hp hi) ht (fun s hs e1 e2 => ?_) rfl rfl rfl rfl (fun p => ?_)
    · obtain ⟨r, hr, rfl⟩ := List.mem_map.1 hs
      have : twP sd i t = true := by
        unfold twP
        refine List.any_eq_true.2 ⟨r, hr, ?_⟩
        rw [Bool.and_eq_true]
        exact ⟨beq_iff_eq.2 e1, beq_iff_eq.2 e2⟩
      rw [hno] at this
      cases this
    · rw [hml]
      simp only [List.mem_append, List.mem_singleton, mem_send]
      constructor
      · rintro ((h1 | ⟨r, rfl, h1, _, h3⟩) | h1)
        · exact Or.inl h1
        · exact Or.inr ⟨h1, h3⟩
        · rw [h1]
          exact Or.inr ⟨hi, rfl⟩
      · rintro (h1 | ⟨h1, h2⟩)
        · exact Or.inl (Or.inl h1)
        · by_cases hpi : p.1 = i
          · right
            obtain ⟨j, x⟩ := p
            simp only at hpi h2
            rw [hpi, h2]
          · exact Or.inl (Or.inr ⟨_, rfl, h1, hpi, h2⟩)
  have hsrc : SrcOK n g ⟨tkS es, mlS (ml ++ sendM g i [(initM i t b).r]) ++ [(i, initM i t b)], sdS (sd ++ [sdR i t b]), tdS td⟩ i (initM i t b) := ⟨hc, hb, Or.inr rfl, fun _ _ _ => (by
    show (i, t, b) ∈ sdS (sd ++ [sdR i t b])
    rw [hsd]
    exact List.mem_append_right _ (List.mem_singleton.2 rfl)), fun h1 => (by cases h1), fun h1 => (by cases h1)⟩
  obtain ⟨ms1, hnet⟩ := hear_net hp hn (es := es) (td := td) h.hb h.td hA rfl rfl hi hsrc [(initM i t b).r] (ml0 := ml ++ sendM g i [(initM i t b).r]) (fun p hp => List.mem_append_left _ hp) (fun p hp => by
    rcases List.mem_append.1 hp with h1 | h1
    · exact Or.inl h1
    · exact Or.inr (List.mem_singleton.1 h1))
  have hms := hnet.ms
  have hdn := net_dn hp hnet hi hc (fun r hr => by rw [List.mem_singleton.1 hr]; rfl) (ml := ml) hl (out_len hnet hp (by simp))
  have hbd : ∀ l ∈ ml ++ sendM g i [(initM i t b).r], InB (lM l).bd ∧ (lM l).bd.length ≤ 4096 := fun l hl => by
    rcases List.mem_append.1 hl with hl | hl
    · exact h.ml l hl
    · exact send_bd (P := fun m => InB m.bd ∧ m.bd.length ≤ 4096) (fun r hr => by rw [List.mem_singleton.1 hr]; exact ⟨hb, hbl⟩) l hl
  have hci := net_ci hnet (sd := sd ++ [sdR i t b]) rfl (fun s hs => by
    rcases List.mem_append.1 hs with hs | hs
    · exact h.sd s hs
    · rw [List.mem_singleton.1 hs]; exact ⟨hbl, hb⟩) hbd
  have hpt := net_pot hnet hi (sd ++ [sdR i t b])
  have hout : outS es i t b = (esOf ((obI es i).c 0) (initM i t b) (hear2M i (mbN n) (initM i t b) (s0Of ((obI es i).c 0) (initM i t b) [(initM i t b).r] [])).1, (hear2M i (mbN n) (initM i t b) (s0Of ((obI es i).c 0) (initM i t b) [(initM i t b).r] [])).1.ms, (hear2M i (mbN n) (initM i t b) (s0Of ((obI es i).c 0) (initM i t b) [(initM i t b).r] [])).1.ts) := by
    unfold outS
    rw [h.hb.me i hi, h.hb.mb i hi]
    rfl
  have hput : putP g es ml td i (outS es i t b) = (putM es i (esOf ((obI es i).c 0) (initM i t b) (hear2M i (mbN n) (initM i t b) (s0Of ((obI es i).c 0) (initM i t b) [(initM i t b).r] [])).1), (ml ++ sendM g i [(initM i t b).r]) ++ sendM g i ms1, tellM i (hear2M i (mbN n) (initM i t b) (s0Of ((obI es i).c 0) (initM i t b) [(initM i t b).r] [])).1.ts td) := by
    rw [hout]
    unfold putP
    simp only
    rw [hms, List.append_assoc]
    congr 2
    unfold sendM
    rw [List.flatMap_append]
  rw [hput, hout]
  refine ⟨hdn, hci, Nat.le_trans hpt ?_⟩
  show (ml ++ sendM g i [(initM i t b).r]).length + (g - 1) * un n g (nsS ((es, ml, td), sd)) ≤ ml.length + (g - 1) * un n g (nsS ((es, ml, td), sd)) + (g - 1)
  rw [List.length_append, send_len hi]
  simp only [List.length_cons, List.length_nil]
  omega
structure OpIn (r : Rec) : Prop where
  b : InB (recW r 3)
  bl : (recW r 3).length ≤ 140737488355328
  m : InB (recW r 10)
  ml : (recW r 10).length ≤ 140737488355328
theorem kth_lt {ml : List Rec} (r : Rec) (h : ml ≠ []) : kthP ml r < ml.length := (kthP_rng r h).2
theorem step_ok (hp : Par n g f half) (hn : Nums n f half) {S : PlT} (h : CI n g f half S) (hl : pot n g S ≤ 900000) {r : Rec} (hr : OpIn r) :
    StepOK n g S r ∧ CI n g f half (stepP n g S r) ∧ pot n g (stepP n g S r) ≤ pot n g S + g := by
  have hl' : S.1.2.1.length ≤ 900000 := Nat.le_trans (Nat.le_add_right _ _) hl
  have hg1 : 1 ≤ g := by have := hp.h2; omega
  have hw : Good g (whoP g r) := whoP_rng r (by omega)
  have ht := tpP_rng r
  by_cases c0 : recI r 0 = 0
  · by_cases hc : twP S.2 (whoP g r) (tpP r) = true ∨ 4096 < (recW r 3).length
    · have e : stepP n g S r = S := by unfold stepP; rw [if_pos c0, if_pos hc]
      rw [e]
      exact ⟨⟨fun _ h => (h hc).elim, fun h => (by omega), fun h => (by omega), fun h => (by omega)⟩, h, Nat.le_add_right _ _⟩
    · have e : stepP n g S r = (putP g S.1.1 S.1.2.1 S.1.2.2 (whoP g r) (outS S.1.1 (whoP g r) (tpP r) (recW r 3)), S.2 ++ [sdR (whoP g r) (tpP r) (recW r 3)]) := by unfold stepP; rw [if_pos c0, if_neg hc]
      obtain ⟨h1, ⟨h2, h3⟩, h4, h5⟩ := sa_ok hp hn h (by omega) hw (t := tpP r) ⟨ht.1, by omega⟩ (b := recW r 3) hr.b (by omega) (by
        cases hx : twP S.2 (whoP g r) (tpP r)
        · rfl
        · exact (hc (Or.inl hx)).elim)
      rw [e]
      exact ⟨⟨fun _ _ => ⟨h1, hr.b, h2, h3⟩, fun h => (by omega), fun h => (by omega), fun h => (by omega)⟩, h4, by omega⟩
  · by_cases c1 : recI r 0 = 1
    · by_cases he : S.1.2.1 = []
      · have e : stepP n g S r = S := by unfold stepP; rw [if_neg c0, if_pos c1, if_pos he]
        rw [e]
        exact ⟨⟨fun h => (by omega), fun _ h => (h he).elim, fun h => (by omega), fun h => (by omega)⟩, h, Nat.le_add_right _ _⟩
      · have e : stepP n g S r = (dlM g S.1.1 S.1.2.1 S.1.2.2 (kthP S.1.2.1 r), S.2) := by unfold stepP; rw [if_neg c0, if_pos c1, if_neg he]
        obtain ⟨h1, h2, h3⟩ := dl_ok hp hn h (kth_lt r he) (by omega)
        rw [e]
        exact ⟨⟨fun h => (by omega), fun _ _ => h1, fun h => (by omega), fun h => (by omega)⟩, h2, by omega⟩
    · by_cases c3 : recI r 0 = 3
      · by_cases he : S.1.2.1 = []
        · have e : stepP n g S r = S := by unfold stepP; rw [if_neg c0, if_neg c1, if_pos c3, if_pos he]
          rw [e]
          exact ⟨⟨fun h => (by omega), fun h => (by omega), fun _ h => (h he).elim, fun h => (by omega)⟩, h, Nat.le_add_right _ _⟩
        · have e : stepP n g S r = (dlM g S.1.1 (S.1.2.1 ++ [dupR (S.1.2.1.getD (kthP S.1.2.1 r) [])]) S.1.2.2 (kthP S.1.2.1 r), S.2) := by unfold stepP; rw [if_neg c0, if_neg c1, if_pos c3, if_neg he]
          have hk := kth_lt r he
          obtain ⟨h1, h2⟩ := dup_ok h hk
          obtain ⟨h3, h4, h5⟩ := dl_ok hp hn h1 (k := kthP S.1.2.1 r) (by rw [List.length_append]; omega) (by rw [List.length_append]; simp only [List.length_cons, List.length_nil]; omega)
          rw [e]
          exact ⟨⟨fun h => (by omega), fun h => (by omega), fun _ _ => h3, fun h => (by omega)⟩, h4, by simp only at h5; omega⟩
      · by_cases c2 : recI r 0 = 2
        · by_cases he : (g : Int) = n
          · have e : stepP n g S r = S := by unfold stepP; rw [if_neg c0, if_neg c1, if_neg c3, if_pos c2, if_pos he]
            rw [e]
            exact ⟨⟨fun h => (by omega), fun h => (by omega), fun h => (by omega), fun _ h => (h he).elim⟩, h, Nat.le_add_right _ _⟩
          · have e : stepP n g S r = (putP g S.1.1 S.1.2.1 S.1.2.2 (whoP g r) (goM S.1.1 (whoP g r) (falseM n g r)), S.2) := by unfold stepP; rw [if_neg c0, if_neg c1, if_neg c3, if_pos c2, if_neg he]
            have hgn := hp.gn
            have hmod := modM_rng (x := recI r 6) (g := (n : Int) - g) (by omega)
            obtain ⟨h1, ⟨h2, h3⟩, h4, h5⟩ := fa_ok hp hn h (by omega) hw (m := falseM n g r) hr.m (by show (g : Int) < g + 1 + modM (recI r 6) (n - g); omega)
            rw [e]
            exact ⟨⟨fun h => (by omega), fun h => (by omega), fun h => (by omega), fun _ _ => ⟨h1, hr.m, Nat.le_trans hr.ml (by decide), h2, h3⟩⟩, h4, by omega⟩
        · have e : stepP n g S r = S := by unfold stepP; rw [if_neg c0, if_neg c1, if_neg c3, if_neg c2]
          rw [e]
          exact ⟨⟨fun h => (c0 h).elim, fun h => (c1 h).elim, fun h => (c3 h).elim, fun h => (c2 h).elim⟩, h, Nat.le_add_right _ _⟩
end
theorem obI_hubs (n : Nat) (tk : Nat → List (Rec × Ob)) : ∀ (g k : Nat), k < g → hasE (hubsE n g tk) [.i (k : Int)] = true ∧ obE (hubsE n g tk) [.i (k : Int)] = hubOb ((k : Int) + 1) (mbN n) (tk k)
  | g + 1, k, h => by
    have hno : hasE (hubsE n g tk) [.i (g : Int)] = false := by
      cases hx : hasE (hubsE n g tk) [.i (g : Int)]
      · rfl
      · exact (hubsE_not n g tk (Nat.le_refl g) (hasE_iff.1 hx)).elim
    have e : hubsE n (g + 1) tk = setE (hubsE n g tk) [.i (g : Int)] (hubOb ((g : Int) + 1) (mbN n) (tk g)) := by rw [hubsE_succ, setE_keysN hno]
    rw [e, hasE_set, obE_set]
    by_cases hk : k = g
    · subst hk
      rw [if_pos rfl]
      exact ⟨by simp, rfl⟩
    · obtain ⟨h1, h2⟩ := obI_hubs n tk g k (by omega)
      have hne : ¬ (([.i (k : Int)] : Rec) = [.i (g : Int)]) := fun e => hk (by simp only [List.cons.injEq, Fd.i.injEq, and_true] at e; omega)
      rw [if_neg hne, h1, h2]
      exact ⟨by simp, rfl⟩
theorem start_ok {n g f half : Nat} (hp : Par n g f half) : CI n g f half ((hubsE n g fun _ => [], [], List.replicate 400 []), []) ∧ pot n g ((hubsE n g fun _ => [], [], List.replicate 400 []), []) ≤ 10000 := by
  have hgn := hp.gn
  have hn9 := hp.n9
  have hob : ∀ i, Good g i → obI (hubsE n g fun _ => []) i = hubOb i (mbN n) [] := fun i hi => by
    have hi1 := hi.1
    have hi2 := hi.2
    have := (obI_hubs n (fun _ => []) g (i - 1).toNat (by omega)).2
    unfold obI
    rw [this, show (((i - 1).toNat : Nat) : Int) + 1 = i by omega]
  have htk : ∀ i t w, Good g i → tkS (hubsE n g fun _ => []) i t w = ⟨false, false, false, fun _ => none, fun _ => none⟩ := fun i t w hi => by
    rw [tkS_in hi.1, hob i hi]
    rfl
  have hcell : ∀ i t w, cellT (List.replicate 400 []) i t w = [] := fun i t w => by
    unfold cellT
    rw [List.getD_eq_getElem?_getD, List.getElem?_replicate]
    split <;> rfl
  have htd : ∀ i t w, tdS (List.replicate 400 []) i t w = none := fun i t w => by
    unfold tdS
    split
    · rw [hcell]
    · rfl
  have hz : ∀ x, cn n (fun _ => none) x = 0 := fun x => List.countP_eq_zero.2 fun j _ => by unfold saidB; simp
  refine ⟨⟨⟨hubsE_len .., fun i hi => ?_, fun i hi => (by rw [hob i hi]; rfl), fun i hi => (by rw [hob i hi]; rfl), fun i key hi => (by rw [hob i hi]; exact wfN_nil n), fun i key hi => (by rw [hob i hi]; exact wfN_nil n)⟩, ⟨List.length_replicate, fun i t w _ => Or.inl (hcell i t w)⟩, ?_, fun l hl => (by cases hl), fun s hs => (by cases hs)⟩, ?_⟩
  · have hi1 := hi.1
    have hi2 := hi.2
    exact (obI_hubs n (fun _ => []) g (i - 1).toNat (by omega)).1
  · exact {
      loc := fun i t w hi => by
        show Loc n f half i (tkS (hubsE n g fun _ => []) i t w)
        rw [htk i t w hi]
        exact ⟨by simp, by simp, fun x h => (by simp only [hz] at h; omega), fun x h => (by simp only [hz] at h; omega)⟩
      es := fun i j t w x hi _ hx => by
        have hx' : (tkS (hubsE n g fun _ => []) i t w).e j = some x := hx
        rw [htk i t w hi] at hx'
        cases hx'
      qs := fun i j t w x hi _ hx => by
        have hx' : (tkS (hubsE n g fun _ => []) i t w).q j = some x := hx
        rw [htk i t w hi] at hx'
        cases hx'
      ei := fun j t w x hj _ hx => by
        have hx' : (tkS (hubsE n g fun _ => []) j t w).e j = some x := hx
        rw [htk j t w hj] at hx'
        cases hx'
      qq := fun j t w x hj hx => by
        have hx' : (tkS (hubsE n g fun _ => []) j t w).q j = some x := hx
        rw [htk j t w hj] at hx'
        cases hx'
      tt := fun i t w hi => by
        show (tkS (hubsE n g fun _ => []) i t w).t = true ↔ tdS (List.replicate 400 []) i t w ≠ none
        rw [htk i t w hi, htd]
        simp
      tq := fun i t w x _ hx => by
        have hx' : tdS (List.replicate 400 []) i t w = some x := hx
        rw [htd] at hx'
        cases hx'
      lt := fun p hp => by cases hp
      sg := fun s hs => by cases hs
      su := fun s hs => by cases hs
      w1 := fun s hs => by cases hs
      w2 := fun i j t w _ hj hx => by
        have hx' : (tkS (hubsE n g fun _ => []) j t w).e j ≠ none := hx
        rw [htk j t w hj] at hx'
        exact (hx' rfl).elim
      w3 := fun i j t w _ hj hx => by
        have hx' : (tkS (hubsE n g fun _ => []) j t w).q j ≠ none := hx
        rw [htk j t w hj] at hx'
        exact (hx' rfl).elim }
  · have h1 := un_le n g (nsS ((hubsE n g fun _ => [], [], List.replicate 400 []), []))
    have h2 : g * (3 * n) ≤ 9 * (3 * 9) := Nat.mul_le_mul (by omega) (by omega)
    have h3 : (g - 1) * un n g (nsS ((hubsE n g fun _ => [], [], List.replicate 400 []), [])) ≤ 9 * (2 * (9 * (3 * 9))) := Nat.mul_le_mul (by omega) (by omega)
    unfold pot
    show 0 + _ ≤ _
    omega
theorem nums_of {n : Nat} (h1 : 1 ≤ n) (h9 : n ≤ 9) : Nums n ((n - 1) / 3) ((n + (n - 1) / 3) / 2) := by
  have h0 : mbN n ≠ [] := fun e => by have := mbN_len n; rw [e] at this; simp at this; omega
  exact ⟨by rw [fF_nat h0, mbN_len], by rw [half_nat h0, mbN_len]⟩
end Go.Num
namespace Go.Num
open Go.Abs
section
variable {n g f half : Nat}
theorem step_sd (S : PlT) (r : Rec) : (stepP n g S r).2.length ≤ S.2.length + 1 := by
  unfold stepP
  split
  · split
    · exact Nat.le_succ _
    · simp
  · split
    · split <;> exact Nat.le_succ _
    · split
      · split <;> exact Nat.le_succ _
      · split
        · split <;> exact Nat.le_succ _
        · exact Nat.le_succ _
theorem play_in (hp : Par n g f half) (hn : Nums n f half) {sc : List Rec} (hsc : ∀ r ∈ sc, OpIn r) :
    ∀ k, k ≤ plN sc → CI n g f half (plK n g (hubsE n g fun _ => []) (List.replicate 400 []) sc k) ∧ pot n g (plK n g (hubsE n g fun _ => []) (List.replicate 400 []) sc k) ≤ 10000 + 9 * k ∧ (plK n g (hubsE n g fun _ => []) (List.replicate 400 []) sc k).2.length ≤ k
  | 0, _ => ⟨(start_ok hp).1, (start_ok hp).2, Nat.le_refl _⟩
  | k + 1, hk => by
    obtain ⟨h1, h2, h3⟩ := play_in hp hn hsc k (by omega)
    have hN : plN sc ≤ sc.length ∧ plN sc ≤ 300 := by unfold plN; omega
    have hg := hp.gn
    have h9 := hp.n9
    obtain ⟨_, h4, h5⟩ := step_ok hp hn h1 (by omega) (hsc _ (getD_mem (ml := sc) (k := k) (by omega)))
    have h6 := step_sd (n := n) (g := g) (plK n g (hubsE n g fun _ => []) (List.replicate 400 []) sc k) (sc.getD k [])
    exact ⟨h4, by show pot n g (stepP n g _ _) ≤ _; omega, by show (stepP n g _ _).2.length ≤ _; omega⟩
theorem play_pl (hp : Par n g f half) (hn : Nums n f half) {sc : List Rec} (hsc : ∀ r ∈ sc, OpIn r) : PlOK n g (hubsE n g fun _ => []) (List.replicate 400 []) sc := by
  have hg := hp.gn
  have h9 := hp.n9
  have hh := hp.h2
  have hN : plN sc ≤ sc.length ∧ plN sc ≤ 300 := by unfold plN; omega
  refine ⟨⟨by omega, by omega, by omega⟩, fun k hk => ?_⟩
  obtain ⟨h1, h2, h3⟩ := play_in hp hn hsc k (by omega)
  have h4 := (step_ok hp hn h1 (by omega) (hsc _ (getD_mem (ml := sc) (k := k) (by omega)))).1
  have h5 : (plK n g (hubsE n g fun _ => []) (List.replicate 400 []) sc k).1.2.1.length ≤ pot n g (plK n g (hubsE n g fun _ => []) (List.replicate 400 []) sc k) := Nat.le_add_right _ _
  exact ⟨by omega, by omega, h4⟩
theorem play_end (hp : Par n g f half) (hn : Nums n f half) {sc : List Rec} (hsc : ∀ r ∈ sc, OpIn r) : CI n g f half (plE n g (hubsE n g fun _ => []) (List.replicate 400 []) sc) ∧ pot n g (plE n g (hubsE n g fun _ => []) (List.replicate 400 []) sc) ≤ 20000 ∧ (plE n g (hubsE n g fun _ => []) (List.replicate 400 []) sc).2.length ≤ 300 := by
  have hN : plN sc ≤ 300 := by unfold plN; omega
  obtain ⟨h1, h2, h3⟩ := play_in hp hn hsc (plN sc) (Nat.le_refl _)
  exact ⟨h1, by unfold plE; omega, by unfold plE; omega⟩
theorem inC_of (hp : Par n g f half) {i t w : Int} (hi : Good g i) (ht : 1 ≤ t ∧ t ≤ 3) (hw : 1 ≤ w ∧ w ≤ n) : InC i t w := by
  have hg := hp.gn
  have h9 := hp.n9
  have := hi.2
  exact ⟨⟨hi.1, by omega⟩, ht, hw.1, by omega⟩
theorem cell_some {td : List (List Rec)} {i t w : Int} {x : List Int} (hc : InC i t w) (h : cellT td i t w = [[.w x]]) : tdS td i t w = some x := by
  rw [tdS_in hc, h]; rfl
theorem ag_ok (hp : Par n g f half) {S : PlT} (h : CI n g f half S) : AgOK n g S.1.2.2 := by
  intro t w i h1 h2 h3 h4 h5 h6
  have hc := inC_of hp (i := i) ⟨h5, h6⟩ ⟨h1, h2⟩ ⟨h3, h4⟩
  rcases h.td.c i t w hc with e | ⟨x, e, hl, _⟩
  · rw [e]
    exact ⟨Nat.zero_le _, Nat.zero_le _, fun j _ _ h => (h rfl).elim⟩
  · rw [e]
    refine ⟨Nat.le_refl _, hl, fun j h7 h8 _ h9 => ?_⟩
    have hc' := inC_of hp (i := j) ⟨h7, h8⟩ ⟨h1, h2⟩ ⟨h3, h4⟩
    rcases h.td.c j t w hc' with e' | ⟨y, e', _, _⟩
    · exact (h9 e').elim
    · rw [e']
      exact told_agree hp h.inv (i := i) (j := j) (t := t) (w := w) (x := x) (y := y) ⟨h5, h6⟩ ⟨h7, h8⟩ (cell_some hc e) (cell_some hc' e')
theorem sd_at {S : PlT} (h : CI n g f half S) {k : Nat} (hk : k < S.2.length) : Good g (recI (S.2.getD k []) 1) ∧ (1 ≤ recI (S.2.getD k []) 2 ∧ recI (S.2.getD k []) 2 ≤ 3) ∧ (recW (S.2.getD k []) 3).length ≤ 4096 ∧ (recI (S.2.getD k []) 1, recI (S.2.getD k []) 2, recW (S.2.getD k []) 3) ∈ (nsS S).sd := by
  have hm := getD_mem hk
  have h1 : (recI (S.2.getD k []) 1, recI (S.2.getD k []) 2, recW (S.2.getD k []) 3) ∈ (nsS S).sd := List.mem_map.2 ⟨_, hm, rfl⟩
  obtain ⟨h2, h3⟩ := h.inv.sg _ h1
  exact ⟨h2, h3, (h.sd _ hm).1, h1⟩
theorem cell_said (hp : Par n g f half) {S : PlT} (h : CI n g f half S) {k : Nat} (hk : k < S.2.length) {i : Int} (hi : Good g i) :
    cellT S.1.2.2 i (recI (S.2.getD k []) 2) (recI (S.2.getD k []) 1) = [] ∨ cellT S.1.2.2 i (recI (S.2.getD k []) 2) (recI (S.2.getD k []) 1) = [[.w (recW (S.2.getD k []) 3)]] := by
  obtain ⟨h1, h2, _, h4⟩ := sd_at h hk
  have hc := inC_of hp hi h2 (good_n hp h1)
  rcases h.td.c _ _ _ hc with e | ⟨x, e, _⟩
  · exact Or.inl e
  · right
    rw [e, told_said hp h.inv hi (cell_some hc e) h4]
end
end Go.Num
namespace Go.Num
open Go.Abs Go.Proofs Go.Shelf Go.RowKit
theorem size_ok (n : Int) : ∃ m : Nat, (m : Int) = 1 + (bitsOf .and .i64 n 1023).tmod 7 ∧ 1 ≤ m ∧ m ≤ 9 := by
  obtain ⟨b1, b2⟩ := bits_1023 n
  have h1 := Int.tmod_nonneg 7 b1
  have h2 := Int.tmod_lt_of_pos (bitsOf .and .i64 n 1023) (show (0 : Int) < 7 by decide)
  exact ⟨(1 + (bitsOf .and .i64 n 1023).tmod 7).toNat, by omega, by omega, by omega⟩
section
variable {n g f half : Nat}
theorem ar2_sum (hp : Par n g f half) {S : PlT} (h : CI n g f half S) (hl : S.2.length ≤ 300) {i : Int} (hi : Good g i) :
    SumOK Try.prog DB (bodyN Try.f3 1) (loopL DB (ar2Sn n g S.1.1 S.1.2.1 S.1.2.2 S.2 i (0 : Nat)) (.exit 2) (ar1Sn n g S.1.1 S.1.2.1 S.1.2.2 S.2 i)) := by
  have hg := hp.gn
  have h9 := hp.n9
  have hi1 := hi.1
  have hi2 := hi.2
  refine sum_loop gAr_ok mixed (c := bodyN Try.f3 1) (fun k => ar2Sn n g S.1.1 S.1.2.1 S.1.2.2 S.2 i (k : Nat)) S.2.length (e := .exit 2) (s := ar1Sn n g S.1.1 S.1.2.1 S.1.2.2 S.2 i) rfl (fun k hk => ?_) ⟨_, _, _, ar2_exit n g _ _ _ _ i _ (decide_eq_false (by omega))⟩
  obtain ⟨⟨a1, a2⟩, ⟨b1, b2⟩, c1, _⟩ := sd_at h hk
  have hcell : S.1.2.2.getD (((((0 + 4) + i.toNat * 40) + (recI (S.2.getD k []) 2).toNat * 10) + (recI (S.2.getD k []) 1).toNat) - 4) [] = cellT S.1.2.2 i (recI (S.2.getD k []) 2) (recI (S.2.getD k []) 1) := by rw [cell_idx]; rfl
  rcases cell_said hp h hk hi with e | e
  · refine ⟨_, _, _, ar2_none n g _ _ _ _ i (k : Nat) ((k + 1 : Nat) : Int) (decide_eq_true (by omega)) (by omega) (by omega) (by omega) (by omega) (by omega) ?_ ?_ ?_ ?_ (by omega) ?_ ?_ ⟨by omega, by omega⟩ rfl⟩
    all_goals rw [Int.toNat_natCast]
    · show 0 ≤ recI (S.2.getD k []) 2; omega
    · show recI (S.2.getD k []) 2 < 4; omega
    · show 0 ≤ recI (S.2.getD k []) 1; omega
    · show recI (S.2.getD k []) 1 < 10; omega
    · show (((0 + 4) + i.toNat * 40) + (recI (S.2.getD k []) 2).toNat * 10) + (recI (S.2.getD k []) 1).toNat < 4 + 400; omega
    · rw [hcell, e]; rfl
  · refine ⟨_, _, _, ar2_one n g _ _ _ _ i (k : Nat) ((k + 1 : Nat) : Int) (decide_eq_true (by omega)) (by omega) (by omega) (by omega) (by omega) (by omega) ?_ ?_ ?_ ?_ (by omega) ?_ ?_ ?_ ?_ ?_ ?_ ?_ ⟨by omega, by omega⟩ rfl⟩
    all_goals rw [Int.toNat_natCast]
    · show 0 ≤ recI (S.2.getD k []) 2; omega
    · show recI (S.2.getD k []) 2 < 4; omega
    · show 0 ≤ recI (S.2.getD k []) 1; omega
    · show recI (S.2.getD k []) 1 < 10; omega
    · show (((0 + 4) + i.toNat * 40) + (recI (S.2.getD k []) 2).toNat * 10) + (recI (S.2.getD k []) 1).toNat < 4 + 400; omega
    · rw [hcell, e]; rfl
    · rw [hcell, e]; exact Int.zero_lt_one
    · rw [hcell, e]; exact decide_eq_true rfl
    · rw [hcell, e]; exact Nat.le_trans c1 (by decide)
    · exact Nat.le_trans c1 (by decide)
    · rw [hcell, e]; rfl
theorem ar1_sum (hp : Par n g f half) {S : PlT} (h : CI n g f half S) (hl : S.2.length ≤ 300) :
    SumOK Try.prog DB (bodyN Try.f3 0) (loopL DB (ar1Sn n g S.1.1 S.1.2.1 S.1.2.2 S.2 1) (.exit 0) ar1Ed) := by
  have hg := hp.gn
  have h9 := hp.n9
  have e0 : ar1Sn n g S.1.1 S.1.2.1 S.1.2.2 S.2 1 = ar1Sn n g S.1.1 S.1.2.1 S.1.2.2 S.2 ((0 : Nat) + 1) := by
    rw [show ((0 : Nat) : Int) + 1 = 1 from rfl]
  rw [e0]
  refine sum_loop gAr_ok mixed (c := bodyN Try.f3 0) (fun k => ar1Sn n g S.1.1 S.1.2.1 S.1.2.2 S.2 ((k : Nat) + 1)) g (e := .exit 0) (s := ar1Ed) rfl (fun k hk => ?_) ⟨_, _, _, ar1_exit n g _ _ _ _ _ (decide_eq_false (by omega))⟩
  exact ⟨_, _, _, ar1_step n g _ _ _ _ ((k : Int) + 1) ((k + 1 : Nat) + 1) (decide_eq_true (by omega)) (ar2_sum hp h hl ⟨by omega, by omega⟩) ⟨by omega, by omega⟩ (by omega)⟩
end
theorem law_agree {n : Int} {sc : List Rec} (_ : InI64 n) (hsc : sc.length ≤ 4611686018427387904 ∧ ∀ r ∈ sc, OpIn r) :
    ∃ Γ, GamOK Try.prog DB Γ ∧ ∃ ds ps, runF Try.prog DB Γ 100 Try.f3 [.one (.int .i64 false n), .one (.prs oSh sc)] ds = some (.v (.one (.bool true true)), ps) ∧ AllQ ps := by
  obtain ⟨m, hm, m1, m9⟩ := size_ok n
  have hp := par_of m1 m9
  have hn := nums_of m1 m9
  obtain ⟨h1, _, h3⟩ := play_end hp hn hsc.2
  have hpl := play_pl hp hn hsc.2
  have hag := ag_ok hp h1
  have hG : nGood m = m - (m - 1) / 3 := rfl
  rw [← hG] at h1 h3 hpl hag hp
  have hgm : nGood m ≤ m := by unfold nGood; omega
  have := ar_run n m (nGood m : Nat) sc _ _ _ _ (by rw [← hm]; exact ⟨by omega, by omega⟩) (by rw [← hm]; exact ⟨by omega, by omega⟩) (by rw [← hm, Int.toNat_natCast]; exact hpl) (by rw [← hm, Int.toNat_natCast]; exact hag) (by rw [← hm, Int.toNat_natCast]; exact ⟨⟨by omega, by omega⟩, by omega, by omega⟩) (ar1_sum hp h1 h3) hm.symm (by rw [← hm, Int.toNat_natCast]) (by rw [← hm, Int.toNat_natCast]) (by rw [← hm, Int.toNat_natCast]) (by rw [← hm, Int.toNat_natCast]) (by rw [← hm, Int.toNat_natCast])
  obtain ⟨ps, p1, p2⟩ := this
  exact ⟨_, gAr_ok, _, ps, p1, p2⟩
end Go.Num
namespace Go.Laws
open Go.Abs Go.Proofs Go.Proofs.Ytgfinnhfpiadiaa Go.ChangeShapes Go.WideShapes Go.ChangeAt Go.RowKit Go.Num
theorem own : ownKnob Try.prog.godebug = none := by kernel_rfl
theorem laidOut : laidOutB Try.prog = true := by kernel_rfl
theorem trodAll_below {H : Type} {enc : TypeId × Value → H} {P : Program} (hl : laidOutB P = true) {W W' : World} (hb : Below W.heap.size W W') :
    ∀ {ts : List TypeId} {vs : List Value} {ds : List (DataW H)} {ps : List MemPlace}, (ts.all fun t => P.readableRec t && decide (t < P.types.size)) = true →
      DataW.TrodAll enc P W 0 (fun _ => true) true ts vs ds ps → (∀ x ∈ ps, x.block < W.heap.size) → DataW.TrodAll enc P W' 0 (fun b => decide (b < W.heap.size)) true ts vs ds ps
  | [], [], [], _, _, h, _ => h
  | [], [], _ :: _, _, _, h, _ => h.elim
  | [], _ :: _, _, _, _, h, _ => h.elim
  | _ :: _, [], _, _, _, h, _ => h.elim
  | _ :: _, _ :: _, [], _, _, h, _ => h.elim
  | t :: ts, v :: vs, d :: ds, ps, hr, h, hlt => by
    obtain ⟨p, q, h1, h2, rfl⟩ := h
    simp only [List.all_cons, Bool.and_eq_true, decide_eq_true_eq] at hr
    exact ⟨p, q, Below.trod hl hr.1.1 hr.1.2 h1 hb (fun x hx => hlt x (List.mem_append_left _ hx)), trodAll_below hl hb (by simpa using hr.2) h2 (fun x hx => hlt x (List.mem_append_right _ hx)), rfl⟩
theorem law_post {H : Type} {enc : TypeId × Value → H} {P : Program} {fn : Func} {s : ChangeSpec} {W W' : World} {args : Array Value} {ds : List (DataW H)} {before : List MemPlace} {tb : TypeId} (hl : laidOutB P = true)
    (hp : (fn.params.toList.all fun t => P.readableRec t && decide (t < P.types.size)) = true) (hs : s.vars = []) (hfn : s.fn H (ds ++ []) = { results := [.lit (.bool true)], args := ds })
    (hr : fn.resultTypes = #[tb]) (htb : P.underlying tb = some .bool) (hW : DataW.Whole enc P fn.params.toList s.vars false W args.toList ds [] before) (hb : Below W.heap.size W W') :
    s.post enc P fn false true false false W args (.bool true) W' := by
  have hlt : ∀ p ∈ before, p.block < W.heap.size := fun p hp => hW.lt p hp
  obtain ⟨p, q, hA, hV, hpq, hfz, hnd⟩ := id hW
  have hq : q = [] := by
    rw [hs] at hV
    exact hV
  subst hq
  rw [List.append_nil] at hpq
  subst hpq
  refine ⟨ds, [], before, [], before, [], hW, ?_, ?_, ?_, World.keptBut_mono (fun x hx => ⟨hx, .inr (.inl hx)⟩) (hb.frame (· ∈ before)), fun h => by cases h⟩
  · rw [hfn, hr]
    exact trodAll_cons_mk (shut_bool htb _) trodAll_mk0
  · rw [hfn]
    exact trodAll_below hl hb hp hA hlt
  · rw [hfn, hs]
    rfl
theorem no_spot {W : World} {a : Addr} {v : Value} (h : W.cell? a = some v) : a.spot = none := by
  unfold World.cell? at h
  split at h
  · split at h
    · cases h
    · rename_i hsp
      simpa using hsp
  · cases h
theorem add_plain {a : Addr} (hs : a.spot = none) (i : Nat) : a.add i = ⟨a.block, a.off + i, none⟩ := by
  unfold Addr.add
  split
  · rename_i h0
    subst h0
    cases a
    simp only at hs
    subst hs
    rfl
  · rfl
theorem cells_words {H : Type} {enc : TypeId × Value → H} {P : Program} {W : World} {t e : TypeId} {k : IntKind} {fuel : Nat} {cs : List Value} {x : DataW H × List MemPlace} (ht : P.underlying t = some (.slice e)) (he : P.underlying e = some (.int k)) (hc : P.cellsOf e = 1)
    (h : DataW.trod enc P W 0 (fun _ => true) true fuel t cs = some x) (hr : ∀ n ∈ x.1.weights P t, n ≤ reachBytes) :
    ∃ (v : Value) (l : List Int), cs = [v] ∧ SlRel (fun _ => False) W k l v ∧ v.oneCell' = true ∧ (∀ n ∈ l, (Lit.int k n).wf = true) ∧ l.length * P.bytesOf e ≤ reachBytes ∧
      ((l = [] ∧ x.1 = .nil) ∨ ∃ rest, x.1 = .slice (lits k l) rest) := by
  rcases open_ints ht he hc h with ⟨h1, h2⟩ | ⟨a, len, cap, zs, h1, _, h3, h4, h5, h6, h7, h8⟩
  · exact ⟨.slice none 0 0, [], h1, ⟨none, 0, rfl, Nat.le_refl _, Nat.zero_le _, fun _ => rfl, (fun i hi => by cases hi)⟩, rfl, (fun n hn => by cases hn), by simp, .inl ⟨rfl, by rw [h2]⟩⟩
  · subst h6
    simp only [if_true] at h5
    have hl : (zs.take len).length = len := by rw [List.length_take]; omega
    refine ⟨_, zs.take len, h1, ⟨some a, cap, by rw [hl], by omega, h4, (fun h => by cases h), fun i hi => ?_⟩, rfl, fun n hn => h8 n (List.mem_of_mem_take hn), ?_, .inr ⟨_, rfl⟩⟩
    · rw [hl] at hi
      have h0 := h7 0 (by omega)
      rw [Addr.add, if_pos rfl] at h0
      have hs := no_spot h0
      have h9 := h7 i (by omega)
      rw [add_plain hs] at h9
      refine ⟨a.block, a.off, ?_, fun h => h, ?_⟩
      · cases a
        simp only at hs
        subst hs
        rfl
      · rw [h9]
        congr 2
        rw [List.getD_eq_getElem?_getD, List.getD_eq_getElem?_getD, List.getElem?_take_of_lt hi]
    · have h10 := hr ((zs.take len).length * P.bytesOf e + (zs.drop len).length * P.bytesOf e) (by simp only [DataW.weights, ht, lits, List.length_map, Nat.add_mul]; exact List.mem_cons_self ..)
      omega
theorem choose_list {α : Type} {p : Nat → α → Prop} : ∀ {n : Nat}, (∀ i, i < n → ∃ x, p i x) → ∃ l : List α, l.length = n ∧ ∀ i x, l[i]? = some x → p i x
  | 0, _ => ⟨[], rfl, fun i x h => by cases h⟩
  | n + 1, h => by
    obtain ⟨l, h1, h2⟩ := choose_list (n := n) fun i hi => h i (by omega)
    obtain ⟨x, hx⟩ := h n (by omega)
    refine ⟨l ++ [x], by simp [h1], fun i y hy => ?_⟩
    by_cases hi : i < l.length
    · rw [List.getElem?_append_left hi] at hy
      exact h2 i y hy
    · rw [List.getElem?_append_right (by omega)] at hy
      have hi' : i - l.length = 0 := by
        have := (List.getElem?_eq_some_iff.1 hy).1
        simp at this
        omega
      rw [hi'] at hy
      simp only [List.getElem?_cons_zero, Option.some.injEq] at hy
      subst hy
      rw [show i = n from by omega]
      exact hx
theorem weights_all {H : Type} {P : Program} {e : TypeId} {d : DataW H} : ∀ {l : List (DataW H)}, d ∈ l → ∀ n ∈ d.weights P e, n ∈ DataW.weightsAll P e l
  | [], h, _, _ => by cases h
  | x :: l, h, n, hn => by
    simp only [DataW.weightsAll, List.mem_append]
    rcases List.mem_cons.1 h with rfl | h
    · exact .inl hn
    · exact .inr (weights_all h n hn)
theorem wf_u8 {n : Int} (h : (Lit.int .u8 n).wf = true) : 0 ≤ n ∧ n < 256 := by
  have h1 : IntKind.u8.min = 0 := rfl
  have h2 : IntKind.u8.max = 255 := rfl
  simp only [Lit.wf, Bool.and_eq_true, decide_eq_true_eq] at h
  omega
theorem wf_i64 {n : Int} (h : (Lit.int .i64 n).wf = true) : -9223372036854775808 ≤ n ∧ n ≤ 9223372036854775807 := by
  have h1 : IntKind.i64.min = -9223372036854775808 := rfl
  have h2 : IntKind.i64.max = 9223372036854775807 := rfl
  simp only [Lit.wf, Bool.and_eq_true, decide_eq_true_eq] at h
  omega
theorem one_num {D : Dom} {W : World} {k : IntKind} {b : Bool} {n : Int} : A0Rel D (cenv W) (.one (.int k b n)) (.int k n) := ⟨rfl, rfl⟩
theorem rel_nil {D : Dom} {E : Env} : A0sRel D E [] [] := rfl
theorem rel_cons {D : Dom} {E : Env} {a : A0 D.τ} {v : Value} {xs : List (A0 D.τ)} {vs : List Value} (h : A0Rel D E a v) (k : A0sRel D E xs vs) : A0sRel D E (a :: xs) (v :: vs) := ⟨v, vs, rfl, h, k⟩
theorem law_calls {P : Program} {D : Dom} {Γ : Gam D} (hΓ : GamOK P D Γ) (hm : P.follows .mixedOrders = true) {f : FuncId} {fn : Func} (hf : P.funcs[f]? = some fn) {fuel : Nat} {xs : List (A0 D.τ)} {ds : List (Dec D.τ)} {b : Bool} {ps : List Prop}
    (h : runF P D Γ fuel fn xs ds = some (.v (.one (.bool b true)), ps)) (hps : AllQ ps) {W : World} {vs : List Value} (hG : GlobAt D W) (hx : A0sRel D (cenv W) xs vs) :
    Calls P f vs.toArray W fun e w' => e = .returned (.bool true) ∧ Below W.heap.size W w' := by
  refine (runF_calls hΓ hm hf h hps hG hx).mono ?_
  rintro e w' ⟨v, he, ⟨ν, _, hr⟩, hb⟩
  have hv : v = .bool true := by
    obtain ⟨_, h2⟩ := hr
    simpa [PartRel] using h2
  subst hv
  exact ⟨he, hb⟩
end Go.Laws
namespace Go.Laws
open Go.Abs Go.Proofs Go.ChangeShapes Go.WideShapes Go.ChangeAt Go.RowKit Go.Num
theorem cells_int {H : Type} {enc : TypeId × Value → H} {P : Program} {W : World} {t : TypeId} {k : IntKind} {fuel : Nat} {cs : List Value} {x : DataW H × List MemPlace} (ht : P.underlying t = some (.int k)) (h : DataW.trod enc P W 0 (fun _ => true) true fuel t cs = some x) :
    ∃ n, cs = [.int k n] ∧ (Lit.int k n).wf = true := by
  obtain ⟨n, h1, _, h3⟩ := DataW.trod_int ht h
  exact ⟨n, h1, h3⟩
theorem sl_known {W : World} {k : IntKind} {l : List Int} {v : Value} (h : SlRel (fun _ => False) W k l v) : SlRel (fun b => ¬ (cenv W).σ.zm b) (cenv W).σ.zw k l v := by
  obtain ⟨ao, cap, e, h1, h2, h3, h4⟩ := h
  refine ⟨ao, cap, e, h1, h2, h3, fun i hi => ?_⟩
  obtain ⟨b, off, e1, _, e3⟩ := h4 i hi
  exact ⟨b, off, e1, fun hn => hn (World.block_lt_of_cell? _ _ e3), e3⟩
theorem open_rows {P : Program} {H : Type} {enc : TypeId × Value → H} {W : World} {base : Nat} {v : Value} {d : DataW H} {ps : List MemPlace} {t e : TypeId} {sh : List FK} {n : Nat} {good : Rec → Prop} (ht : P.underlying t = some (.slice e)) (hc : P.cellsOf e = n) (hn : rsz sh = n) (h1n : 0 < n)
    (elem : ∀ {fuel : Nat} {cs : List Value} {x : DataW H × List MemPlace}, DataW.trod enc P W 0 (fun _ => true) true fuel e cs = some x → (∀ n ∈ x.1.weights P e, n ≤ reachBytes) → ∃ r : Rec, RecRel (cenv W).σ sh 0 r cs ∧ good r ∧ cs.length = n)
    (hval : Value.okWide P W .any base t v) (hd : DataW.Trod enc P W 0 (fun _ => true) true t v d ps) (hr : ∀ n ∈ d.weights P t, n ≤ reachBytes) :
    ∃ sc : List Rec, A0Rel DB (cenv W) (.one (.prs sh sc)) v ∧ sc.length * P.bytesOf e ≤ reachBytes ∧ ∀ r ∈ sc, good r := by
  obtain ⟨a0, len0, cap0, rfl⟩ := okWide_slice ht hval
  obtain ⟨fuel, hf⟩ := hd
  rcases DataW.trod_slice ht hf with ⟨h1, h2⟩ | ⟨a, len, cap, elems, rest, m, _, h1, h2, _, h3, h4, h5, h6, h7, _⟩
  · have h1' : [Value.slice a0 len0 cap0] = [.slice none 0 0] := h1
    simp only [List.cons.injEq, and_true] at h1'
    rw [h1']
    exact ⟨[], ⟨rfl, _, rfl, none, 0, rfl, Nat.le_refl _, Nat.zero_le _, fun _ => rfl, fun i r hi => by cases hi⟩, by simp, fun r hr => by cases hr⟩
  · have h1' : [Value.slice a0 len0 cap0] = [.slice (some a) len cap] := h1
    simp only [List.cons.injEq, and_true] at h1'
    rw [h1']
    simp only [Prod.mk.injEq] at h2
    obtain ⟨rfl, _⟩ := h2
    simp only [DataW.weights, ht] at hr
    have each : ∀ i, i < len → ∃ r : Rec, ∃ cs, W.cells? 0 (a.add (i * n)) n = some cs ∧ RecRel (cenv W).σ sh 0 r cs ∧ good r ∧ cs.length = n := by
      intro i hi
      have he' := h6 i hi
      have hy : elems[i]? = some (elems[i]'(by omega)) := List.getElem?_eq_getElem (by omega)
      rw [hy, hc, Option.bind_eq_some_iff] at he'
      obtain ⟨cs', hcs, hy'⟩ := he'
      obtain ⟨r, g1, g2, g3⟩ := elem hy' (fun n hn => hr n (List.mem_cons_of_mem _ (List.mem_append_left _ (weights_all (List.mem_map_of_mem (List.getElem_mem (by omega))) n hn))))
      exact ⟨r, cs', hcs, g1, g2, g3⟩
    obtain ⟨ll, hl1, hl2⟩ := choose_list each
    refine ⟨ll, ⟨rfl, _, rfl, some a, cap, by rw [hl1], by omega, h4, (fun h => by cases h), fun i r hi => ?_⟩, ?_, fun r hr => ?_⟩
    · obtain ⟨cs, q1, q2, q3, q4⟩ := hl2 i r hi
      have hil : i < len := by have := (List.getElem?_eq_some_iff.1 hi).1; omega
      obtain ⟨_, q5, q6⟩ := World.cells?_some q1
      have hs : a.spot = none := by
        obtain ⟨cs0, p1, _, _, p4⟩ := hl2 0 _ (List.getElem?_eq_getElem (show 0 < ll.length by omega))
        obtain ⟨_, _, p6⟩ := World.cells?_some p1
        have := p6 0 (by omega)
        rw [Nat.zero_mul, Addr.add, if_pos rfl, Addr.add, if_pos rfl, List.getElem?_eq_getElem (by omega)] at this
        exact no_spot this
      have ea : a = ⟨a.block, a.off, none⟩ := by
        cases a
        simp only at hs
        subst hs
        rfl
      have hat : ∀ j w, cs[j]? = some w → W.cell? ⟨a.block, a.off + i * n + j, none⟩ = some w := by
        intro j w hj
        have hjl : j < n := by have := (List.getElem?_eq_some_iff.1 hj).1; omega
        have := q6 j hjl
        rw [hj] at this
        rw [add_plain (a := a.add (i * n)) (by rw [add_plain hs]), add_plain hs] at this
        exact this
      refine ⟨a.block, a.off, cs, by rw [← ea], ?_, q2, by rw [hn]; exact hat⟩
      have h0 := hat 0 _ (List.getElem?_eq_getElem (show 0 < cs.length by omega))
      have := World.block_lt_of_cell? _ _ h0
      exact this
    · have h10 := hr _ (List.mem_cons_self ..)
      rw [List.length_map, h5] at h10
      rw [hl1]
      refine Nat.le_trans ?_ h10
      exact Nat.mul_le_mul_right _ (Nat.le_add_right _ _)
    · obtain ⟨i, hi⟩ := List.getElem?_of_mem hr
      obtain ⟨_, _, _, q3, _⟩ := hl2 i r hi
      exact q3
end Go.Laws
namespace Go.Laws
open Go.Abs Go.Proofs Go.ChangeShapes Go.WideShapes Go.ChangeAt Go.RowKit Go.Num
theorem eleven {α : Type} {cs c4 : List α} {a b c d e f g h i j k : α} (hl : cs.length = 11) (ha : (cs.drop 0).take 1 = [a]) (hb : (cs.drop 1).take 1 = [b]) (hc : (cs.drop 2).take 1 = [c]) (hd : (cs.drop 3).take 1 = [d]) (h4 : (cs.drop 4).take 7 = c4)
    (he : (c4.drop 0).take 1 = [e]) (hf : (c4.drop 1).take 1 = [f]) (hg : (c4.drop 2).take 1 = [g]) (hh : (c4.drop 3).take 1 = [h]) (hi : (c4.drop 4).take 1 = [i]) (hj : (c4.drop 5).take 1 = [j]) (hk : (c4.drop 6).take 1 = [k]) : cs = [a, b, c, d, e, f, g, h, i, j, k] := by
  match cs, hl with
  | [_, _, _, _, _, _, _, _, _, _, _], _ =>
    subst h4
    simp_all
set_option maxRecDepth 10000 in
theorem open_op21 {H : Type} {enc : TypeId × Value → H} {W : World} {fuel : Nat} {cs : List Value} {x : DataW H × List MemPlace} (h : DataW.trod enc Try.prog W 0 (fun _ => true) true fuel 40 cs = some x)
    (hr : ∀ n ∈ x.1.weights Try.prog 40, n ≤ reachBytes) : ∃ r : Rec, RecRel (cenv W).σ oSh 0 r cs ∧ OpIn r ∧ cs.length = 11 := by
  obtain ⟨xs, n, _, hx, hcl, hlen, hfs⟩ := DataW.trod_struct Try.underlying40 h
  rw [show Try.prog.cellsOf 40 = 11 from by kernel_rfl] at hcl
  match xs, hlen with
  | [x0, x1, x2, x3, x4], _ =>
    subst hx
    have h0 := hfs 0 _ rfl
    have h1 := hfs 1 _ rfl
    have h2 := hfs 2 _ rfl
    have h3 := hfs 3 _ rfl
    have h4 := hfs 4 _ rfl
    obtain ⟨n0, e0, _⟩ := cells_int Try.underlying3 h0
    obtain ⟨n1, e1, _⟩ := cells_int Try.underlying3 h1
    obtain ⟨n2, e2, _⟩ := cells_int Try.underlying3 h2
    obtain ⟨u3, l3, e3, hsl3, hone3, hwf3, hle3, _⟩ := cells_words Try.underlying36 Try.underlying5 (by kernel_rfl) h3 (fun m hm => hr m (by
      simp only [DataW.weights, Try.underlying40]
      exact DataW.weights_mem_each (j := 3) (t := 36) rfl rfl m hm))
    rw [show Try.prog.bytesOf 5 = 1 from by kernel_rfl, Nat.mul_one] at hle3
    obtain ⟨ys, n', _, hy, _, hlen2, hgs⟩ := DataW.trod_struct Try.underlying38 h4
    match ys, hlen2 with
    | [y0, y1, y2, y3, y4, y5, y6], _ =>
      subst hy
      have g0 := hgs 0 _ rfl
      have g1 := hgs 1 _ rfl
      have g2 := hgs 2 _ rfl
      have g3 := hgs 3 _ rfl
      have g4 := hgs 4 _ rfl
      have g5 := hgs 5 _ rfl
      have g6 := hgs 6 _ rfl
      obtain ⟨m0, f0, _⟩ := cells_int Try.underlying3 g0
      obtain ⟨m1, f1, _⟩ := cells_int Try.underlying3 g1
      obtain ⟨m2, f2, _⟩ := cells_int Try.underlying3 g2
      obtain ⟨m3, f3, _⟩ := cells_int Try.underlying3 g3
      obtain ⟨m4, f4, _⟩ := cells_int Try.underlying3 g4
      obtain ⟨m5, f5, _⟩ := cells_int Try.underlying3 g5
      obtain ⟨u, l, f6, hsl, hone, hwf, hle, _⟩ := cells_words Try.underlying36 Try.underlying5 (by kernel_rfl) g6 (fun m hm => hr m (by
        simp only [DataW.weights, Try.underlying40]
        refine DataW.weights_mem_each (j := 4) (t := 38) rfl rfl m ?_
        simp only [DataW.weights, Try.underlying38]
        exact DataW.weights_mem_each (j := 6) (t := 36) rfl rfl m hm))
      rw [show Try.prog.bytesOf 5 = 1 from by kernel_rfl, Nat.mul_one] at hle
      obtain rfl := eleven hcl e0 e1 e2 e3 rfl f0 f1 f2 f3 f4 f5 f6
      exact ⟨[.i n0, .i n1, .i n2, .w l3, .i m0, .i m1, .i m2, .i m3, .i m4, .i m5, .w l], ⟨[_], _, rfl, rfl, [_], _, rfl, rfl, [_], _, rfl, rfl, [_], _, rfl, ⟨u3, rfl, sl_known hsl3⟩, [_], _, rfl, rfl, [_], _, rfl, rfl, [_], _, rfl, rfl, [_], _, rfl, rfl, [_], _, rfl, rfl, [_], _, rfl, rfl, [_], _, rfl, ⟨u, rfl, sl_known hsl⟩, rfl⟩, ⟨fun y hy => wf_u8 (hwf3 y hy), Nat.le_trans hle3 (by decide), fun y hy => wf_u8 (hwf y hy), Nat.le_trans hle (by decide)⟩, hcl⟩
set_option maxRecDepth 10000 in
theorem open_ops21 {H : Type} {enc : TypeId × Value → H} {W : World} {base : Nat} {v : Value} {d : DataW H} {ps : List MemPlace} (hval : Value.okWide Try.prog W .any base 22 v)
    (hd : DataW.Trod enc Try.prog W 0 (fun _ => true) true 22 v d ps) (hr : ∀ n ∈ d.weights Try.prog 22, n ≤ reachBytes) :
    ∃ sc : List Rec, A0Rel DB (cenv W) (.one (.prs oSh sc)) v ∧ sc.length ≤ 4611686018427387904 ∧ ∀ r ∈ sc, OpIn r := by
  obtain ⟨sc, h1, h2, h3⟩ := open_rows (n := 11) Try.underlying22 (by kernel_rfl) rfl (by decide) open_op21 hval hd hr
  have hb : Try.prog.bytesOf 40 = 120 := by kernel_rfl
  rw [hb] at h2
  have h2' : sc.length * 120 ≤ 140737488351232 := h2
  exact ⟨sc, h1, by omega, h3⟩
end Go.Laws

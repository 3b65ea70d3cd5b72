/- HKDF: Extract, Expand, of the code and of the reference. -/
import Derived.Test.YtjglidfemgodiaaDoorK3
namespace Go.Num
open Go.Abs Go.Proofs Go.Shelf

def extD : FnD DS
  | [.one (.words .u8 a), .one (.words .u8 b)] => some (.v (.agg [.arr .u8 32 (hmF a b)]), [InB a, InB b, a.length ≤ 1000000, b.length ≤ 1000000])
  | _ => none

theorem ext_ok : FnOK Tryd.prog DS 25 extD := by
  refine fnOK_of gamX_ok mixed Tryd.func25 (enters_of Tryd.func25 (by kernel_rfl) rfl) ?_
  intro xs r ps h hps
  unfold extD at h
  split at h
  · rename_i a b
    simp only [Option.some.injEq, Prod.mk.injEq] at h
    obtain ⟨rfl, rfl⟩ := h
    have e : List.append b [] = b := List.append_nil b
    obtain ⟨qs, q1, q2⟩ := ext_run a b (hps _ (by simp)) (by rw [e]; exact hps _ (by simp)) (hps _ (by simp)) (by rw [e]; exact hps _ (by simp)) (by omega)
    refine ⟨_, _, _, _, _, fun w vs hx => hx, q1, q2, fun E v hv => ?_⟩
    rw [e] at hv
    exact hv
  · cases h

/-- The k-th piece; the first k pieces. -/
def exT (key info : List Int) : Nat → List Int
  | 0 => []
  | k + 1 => hmF key (exT key info k ++ info ++ [IntKind.u8.wrap ((k + 1 : Nat) : Int)])
def exO (key info : List Int) : Nat → List Int
  | 0 => []
  | k + 1 => exO key info k ++ exT key info (k + 1)

def exN (n : Int) : Nat := (n.toNat + 31) / 32

/-- n bytes of a key. -/
def exF (key info : List Int) (n : Int) : List Int := if n < 0 ∨ n > 8160 then [] else (exO key info (exN n)).take n.toNat

theorem exT_len (key info : List Int) (k : Nat) : (exT key info (k + 1)).length = 32 := hmF_len _ _
theorem exT_le (key info : List Int) : ∀ k, (exT key info k).length ≤ 32
  | 0 => Nat.zero_le _
  | k + 1 => Nat.le_of_eq (exT_len key info k)
theorem exT_inB (key info : List Int) : ∀ k, InB (exT key info k)
  | 0 => fun x hx => by cases hx
  | k + 1 => hmF_inB _ _

theorem exO_len (key info : List Int) : ∀ k, (exO key info k).length = 32 * k
  | 0 => rfl
  | k + 1 => by rw [exO, List.length_append, exO_len key info k, exT_len]; omega

theorem exO_pre (key info : List Int) (k : Nat) : ∀ j, (exO key info (k + j)).take (32 * k) = exO key info k
  | 0 => by rw [Nat.add_zero, List.take_of_length_le (by rw [exO_len]; exact Nat.le_refl _)]
  | j + 1 => by
    show (exO key info (k + j) ++ exT key info (k + j + 1)).take (32 * k) = _
    rw [List.take_append_of_le_length (by rw [exO_len]; omega), exO_pre key info k j]

theorem exF_len (key info : List Int) (n : Int) : (exF key info n).length = if n < 0 ∨ n > 8160 then 0 else n.toNat := by
  unfold exF
  split
  · rfl
  · rw [List.length_take, exO_len]
    unfold exN
    omega

theorem exF_pre (key info : List Int) {n m : Int} (hn : 0 ≤ n) (hn2 : n ≤ 8160) (hm : 0 ≤ m) (hm2 : m ≤ 8160) (k : Nat) (hk : k ≤ n.toNat) (hk2 : k ≤ m.toNat) : (exF key info n).take k = (exF key info m).take k := by
  unfold exF
  rw [if_neg (by omega), if_neg (by omega), List.take_take, List.take_take, Nat.min_eq_left hk, Nat.min_eq_left hk2]
  have one : ∀ a b : Nat, k ≤ 32 * a → a ≤ b → (exO key info b).take k = (exO key info a).take k := by
    intro a b h1 h2
    have := exO_pre key info a (b - a)
    rw [show a + (b - a) = b from by omega] at this
    rw [← this, List.take_take, Nat.min_eq_left h1]
  unfold exN
  rcases Nat.le_total ((n.toNat + 31) / 32) ((m.toNat + 31) / 32) with h | h
  · exact (one _ _ (by omega) h).symm
  · exact one _ _ (by omega) h

theorem ex_m (t info : List Int) (i : Nat) : List.append t (List.append info (List.append (IntKind.u8.wrap ((i : Nat) : Int) :: []) [])) = t ++ info ++ [IntKind.u8.wrap (i : Int)] := by
  show t ++ (info ++ ([IntKind.u8.wrap (i : Int)] ++ [])) = _
  rw [List.append_nil, List.append_assoc]

theorem u8_inB (x : Int) : InB [IntKind.u8.wrap x] := fun y hy => by
  simp only [List.mem_singleton] at hy
  subst hy
  rw [IntKind.wrap_u8]
  omega

theorem ex_loop {key info : List Int} {n : Int} (ik : InB key) (ii : InB info) (lk : key.length ≤ 1000000) (li : info.length ≤ 10000) (h0 : 0 ≤ n) (h1 : n ≤ 8160) :
    SumOK Tryd.prog DS (bodyN Tryd.f24 0) (loopL DS (exSn key info n [] [] (1 : Nat)) (.exit 0) (exEnd n (exO key info (exN n)))) := by
  have hs := sum_loop gamX_ok mixed (c := bodyN Tryd.f24 0) (fun k => exSn key info n (exT key info k) (exO key info k) ((k + 1 : Nat) : Int)) (exN n) (e := .exit 0) (s := exEnd n (exO key info (exN n))) rfl (fun k hk => ?_) ?_
  · exact hs
  · have hl := exO_len key info k
    have ht := exT_le key info k
    have hN : 32 * k < n := by unfold exN at hk; omega
    have hlen : (exT key info k ++ info ++ [IntKind.u8.wrap ((k + 1 : Nat) : Int)]).length = (exT key info k).length + info.length + 1 := by simp; omega
    have hb : InB (exT key info k ++ info ++ [IntKind.u8.wrap ((k + 1 : Nat) : Int)]) := inB_append (inB_append (exT_inB key info k) ii) (u8_inB _)
    have hh := hmF_len key (exT key info k ++ info ++ [IntKind.u8.wrap ((k + 1 : Nat) : Int)])
    exact ⟨_, _, _, ex_round key info n (exT key info k) (exO key info k) (exT key info (k + 1)) (exO key info (k + 1)) (k + 1) (decide_eq_true (by omega)) ik (by rw [ex_m]; exact hb) lk (by rw [ex_m]; omega) (by omega) (by rw [ex_m]; omega) (by rw [ex_m]; omega) ⟨by omega, by omega⟩ (by rw [ex_m]; rfl) (by rw [ex_m]; rfl)⟩
  · have hl := exO_len key info (exN n)
    exact ⟨_, _, _, ex_exit key info n _ _ (exN n + 1) (decide_eq_false (by unfold exN at hl ⊢; omega))⟩

theorem re_loop {key info : List Int} {n : Int} (lk : key.length ≤ 1000000) (li : info.length ≤ 10000) (h0 : 0 ≤ n) (h1 : n ≤ 8160) :
    SumOK Tryd.prog DS (bodyN Tryd.f26 0) (loopL DS (reSn key info n [] [] (1 : Nat)) (.exit 0) (reEnd n (exO key info (exN n)))) := by
  have hs := sum_loop gamY_ok mixed (c := bodyN Tryd.f26 0) (fun k => reSn key info n (exT key info k) (exO key info k) ((k + 1 : Nat) : Int)) (exN n) (e := .exit 0) (s := reEnd n (exO key info (exN n))) rfl (fun k hk => ?_) ?_
  · exact hs
  · have hl := exO_len key info k
    have ht := exT_le key info k
    have hN : 32 * k < n := by unfold exN at hk; omega
    have hlen : (exT key info k ++ info ++ [IntKind.u8.wrap ((k + 1 : Nat) : Int)]).length = (exT key info k).length + info.length + 1 := by simp; omega
    have hlen2 : (exT key info k ++ info).length = (exT key info k).length + info.length := List.length_append
    have hh := hmF_len key (exT key info k ++ info ++ [IntKind.u8.wrap ((k + 1 : Nat) : Int)])
    exact ⟨_, _, _, re_round key info n (exT key info k) (exO key info k) (exT key info (k + 1)) (exO key info (k + 1)) (k + 1) (decide_eq_true (by omega)) (by omega) (by omega) (by omega) (by omega) (by omega) lk (by omega) (by omega) (by omega) ⟨by omega, by omega⟩ rfl rfl⟩
  · have hl := exO_len key info (exN n)
    exact ⟨_, _, _, re_exit key info n _ _ (exN n + 1) (decide_eq_false (by unfold exN at hl ⊢; omega))⟩

theorem nil_one {D : Dom} {w w' : World} {e : TypeId} {k : IntKind} {v : Value} (h : RRes D w w' (.v (.one .nil)) v) : RRes D w w' (.v (.one (.fresh 0 e k []))) v := by
  obtain ⟨ν, _, h1⟩ := h
  have hv : [v] = [Value.slice none 0 0] := h1.2
  simp only [List.cons.injEq, and_true] at hv
  subst hv
  exact ⟨nilν, nilν_disj, rfl, fresh_nil⟩

def exD : FnD DS
  | [.one (.words .u8 key), .one (.words .u8 info), .one (.int .i64 _ n)] => some (.v (.one (.fresh 0 5 .u8 (exF key info n))), [InB key, InB info, key.length ≤ 1000000, info.length ≤ 10000])
  | _ => none

theorem int_lit3 {D : Dom} {E : Env} {a b : A0 D.τ} {k : IntKind} {s t : Bool} {n : Int} {vs : List Value} (h : A0sRel D E [a, b, .one (.int k s n)] vs) : A0sRel D E [a, b, .one (.int k t n)] vs := h

theorem exp_ok : FnOK Tryd.prog DS 24 exD := by
  refine fnOK_ofR gamX_ok mixed Tryd.func24 (enters_of Tryd.func24 (by kernel_rfl) rfl) ?_
  intro xs r ps h hps
  unfold exD at h
  split at h
  · rename_i key info _ n
    simp only [Option.some.injEq, Prod.mk.injEq] at h
    obtain ⟨rfl, rfl⟩ := h
    have ik : InB key := hps _ (by simp)
    have ii : InB info := hps _ (by simp)
    have lk : key.length ≤ 1000000 := hps _ (by simp)
    have li : info.length ≤ 10000 := hps _ (by simp)
    by_cases h0 : n < 0
    · obtain ⟨qs, q1, q2⟩ := ex_neg key info n (decide_eq_true h0)
      refine ⟨_, _, _, _, _, fun w vs hx => int_lit3 hx, q1, q2, fun w w' v hv => ?_⟩
      rw [exF, if_pos (.inl h0)]
      exact nil_one hv
    by_cases h1 : n > 8160
    · obtain ⟨qs, q1, q2⟩ := ex_big key info n (decide_eq_false h0) (decide_eq_true h1)
      refine ⟨_, _, _, _, _, fun w vs hx => int_lit3 hx, q1, q2, fun w w' v hv => ?_⟩
      rw [exF, if_pos (.inr h1)]
      exact nil_one hv
    · have hl := exO_len key info (exN n)
      obtain ⟨qs, q1, q2⟩ := ex_run key info n [] (exO key info (exN n)) (decide_eq_false h0) (decide_eq_false h1) ⟨by omega, by omega⟩ (by omega) (by omega) (by omega) (ex_loop ik ii lk li (by omega) (by omega)) rfl (by omega) (by omega) (by unfold exN at hl ⊢; omega)
      refine ⟨_, _, _, _, _, fun w vs hx => int_lit3 hx, q1, q2, fun w w' v hv => ?_⟩
      rw [exF, if_neg (by omega)]
      exact hv
  · cases h

theorem rexp_ok : FnOK Tryd.prog DS 26 exD := by
  refine fnOK_ofR gamY_ok mixed Tryd.func26 (enters_of Tryd.func26 (by kernel_rfl) rfl) ?_
  intro xs r ps h hps
  unfold exD at h
  split at h
  · rename_i key info _ n
    simp only [Option.some.injEq, Prod.mk.injEq] at h
    obtain ⟨rfl, rfl⟩ := h
    have lk : key.length ≤ 1000000 := hps _ (by simp)
    have li : info.length ≤ 10000 := hps _ (by simp)
    by_cases h0 : n < 0
    · obtain ⟨qs, q1, q2⟩ := re_neg key info n (decide_eq_true h0)
      refine ⟨_, _, _, _, _, fun w vs hx => int_lit3 hx, q1, q2, fun w w' v hv => ?_⟩
      rw [exF, if_pos (.inl h0)]
      exact nil_one hv
    by_cases h1 : n > 8160
    · obtain ⟨qs, q1, q2⟩ := re_big key info n (decide_eq_false h0) (decide_eq_true h1)
      refine ⟨_, _, _, _, _, fun w vs hx => int_lit3 hx, q1, q2, fun w w' v hv => ?_⟩
      rw [exF, if_pos (.inr h1)]
      exact nil_one hv
    · have hl := exO_len key info (exN n)
      obtain ⟨qs, q1, q2⟩ := re_run key info n (exO key info (exN n)) (decide_eq_false h0) (decide_eq_false h1) (re_loop lk li (by omega) (by omega)) (by omega) (by unfold exN at hl ⊢; omega)
      refine ⟨_, _, _, _, _, fun w vs hx => int_lit3 hx, q1, q2, fun w w' v hv => ?_⟩
      rw [exF, if_neg (by omega)]
      exact hv
  · cases h

theorem gamZ_ok : GamOK Tryd.prog DS gamZ := gam_cons mac_ok gam_nil

theorem hd2_ok : FnOK Tryd.prog DS 21 headD := by
  refine fnOK_of gamZ_ok mixed Tryd.func21 (enters_of Tryd.func21 (by kernel_rfl) rfl) ?_
  intro xs r ps h _
  unfold headD at h
  split at h
  · simp only [Option.some.injEq, Prod.mk.injEq] at h
    obtain ⟨rfl, rfl⟩ := h
    obtain ⟨ps, h1, h2⟩ := hd2_run (by unfold InB; decide) (by unfold InB; decide) (by kernel_rfl) (by kernel_rfl) (by kernel_rfl)
    exact ⟨_, _, _, _, _, fun w vs h => h, h1, h2, fun E v hv => hv⟩
  · cases h

end Go.Num

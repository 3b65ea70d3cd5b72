/- Messages: what is written is read back. Plain mathematics. -/
import Derived.Test.YtbmjpcpmejibjaaW5
namespace Go.Num
open Go.Abs Go.Proofs Go.Shelf

def LawOK0 (fn : Func) (xs : List (A0 D0.τ)) : Prop := ∃ Γ, GamOK Try.prog D0 Γ ∧ ∃ ds ps, runF Try.prog D0 Γ 200 fn xs ds = some (.v (.one (.bool true true)), ps) ∧ AllQ ps

theorem head_ok : FnOK Try.prog D0 10 headD := by
  refine fnOK_of gw5_ok mixed Try.func10 (enters_of Try.func10 (by kernel_rfl) rfl) ?_
  intro xs r ps h hps
  unfold headD at h
  split at h
  · simp only [Option.some.injEq, Prod.mk.injEq] at h
    obtain ⟨rfl, rfl⟩ := h
    obtain ⟨ps, h1, h2⟩ := head_run
    exact ⟨[], 200, _, _, _, fun w vs h => h, h1, h2, fun E v hv => hv⟩
  · cases h

theorem gw6_ok : GamOK Try.prog D0 gw6 := gam_cons head_ok gw5_ok
theorem gw7_ok : GamOK Try.prog D0 gw7 := gam_soft gw6_ok

theorem beB_be {l : List Int} (h : InB l) : beB l.length (be l) = l := by
  refine (be_inj (beB_inB _ _) h (beB_len _ _)).1 ?_
  rw [be_beB]
  have := be_range h
  exact Int.emod_eq_of_lt this.1 this.2

theorem inB_cons {a : Int} {l : List Int} (h : 0 ≤ a ∧ a < 256) (k : InB l) : InB (a :: l) := fun b hb => by
  rcases List.mem_cons.1 hb with rfl | hb
  · exact h
  · exact k b hb
theorem inB_nil : InB [] := fun a ha => by cases ha
theorem inB_app {l m : List Int} (h : InB l) (k : InB m) : InB (l ++ m) := fun a ha => (List.mem_append.1 ha).elim (h a) (k a)
theorem u8_range (x : Int) : 0 ≤ IntKind.wrap .u8 x ∧ IntKind.wrap .u8 x < 256 := by rw [IntKind.wrap_u8]; omega

theorem Msg.bytes_inB {m : Msg} (h : InB m.bd) : InB m.bytes := by
  unfold Msg.bytes
  refine inB_app (inB_app (inB_app (inB_app (inB_app ?_ (beB_inB _ _)) ?_) (beB_inB _ _)) (beB_inB _ _)) h
  · exact inB_cons (u8_range _) inB_nil
  · exact inB_cons (u8_range _) (inB_cons (u8_range _) (inB_cons (u8_range _) inB_nil))

theorem getV_beB {n : Nat} {x : Int} (h0 : 0 ≤ x) (h1 : x < 256 ^ n) (h2 : x ≤ 9223372036854775807) : getV (beB n x) = x := by
  rw [getV, be_beB, Int.emod_eq_of_lt h0 h1]
  exact wrap_i64 (by omega) h2

theorem wrap_small {x : Int} (h0 : 0 ≤ x) (h1 : x < 256) : IntKind.wrap .i64 (IntKind.wrap .u8 x) = x := by
  rw [IntKind.wrap_u8, Int.emod_eq_of_lt h0 h1]
  exact wrap_i64 (by omega) (by omega)

theorem Msg.Ck_all {m : Msg} (h : m.Ck) : 1 ≤ m.kd ∧ m.kd ≤ 8 ∧ 0 ≤ m.ep ∧ m.ep ≤ 1048576 ∧ 1 ≤ m.fr ∧ m.fr ≤ 9 ∧ 0 ≤ m.wh ∧ m.wh ≤ 9 ∧ 0 ≤ m.tp ∧ m.tp ≤ 3 ∧ 0 ≤ m.rd ∧ m.rd ≤ 1099511627776 ∧ m.bd.length ≤ 4096 := by
  obtain ⟨h1, h2, h3, h4, h⟩ := h
  unfold Msg.Rt Go.Num.Rt at h
  omega

theorem decM_bytes {m : Msg} (h : m.Ck) : decM m.bytes = m := by
  obtain ⟨k1, k2, e1, e2, f1, f2, w1, w2, t1, t2, r1, r2, n⟩ := Msg.Ck_all h
  obtain ⟨kd, ep, fr, wh, tp, rd, bd⟩ := m
  simp only at *
  have a0 : (Msg.bytes ⟨kd, ep, fr, wh, tp, rd, bd⟩).getD 0 0 = IntKind.wrap .u8 kd := rfl
  have a1 : ((Msg.bytes ⟨kd, ep, fr, wh, tp, rd, bd⟩).take 5).drop 1 = beB 4 ep := rfl
  have a2 : (Msg.bytes ⟨kd, ep, fr, wh, tp, rd, bd⟩).getD 5 0 = IntKind.wrap .u8 fr := rfl
  have a3 : (Msg.bytes ⟨kd, ep, fr, wh, tp, rd, bd⟩).getD 6 0 = IntKind.wrap .u8 wh := rfl
  have a4 : (Msg.bytes ⟨kd, ep, fr, wh, tp, rd, bd⟩).getD 7 0 = IntKind.wrap .u8 tp := rfl
  have a5 : ((Msg.bytes ⟨kd, ep, fr, wh, tp, rd, bd⟩).take 16).drop 8 = beB 8 rd := rfl
  have a6 : (Msg.bytes ⟨kd, ep, fr, wh, tp, rd, bd⟩).drop 18 = bd := rfl
  rw [decM, a0, a1, a2, a3, a4, a5, a6, wrap_small (by omega) (by omega), wrap_small (by omega) (by omega), wrap_small w1 (by omega), wrap_small t1 (by omega), getV_beB e1 (by omega) (by omega), getV_beB r1 (by omega) (by omega)]

theorem size_bytes {m : Msg} (h : m.Ck) : getV ((m.bytes.take 18).drop 16) = (m.bd.length : Int) := by
  have n := Msg.Ck_len h
  have a : (m.bytes.take 18).drop 16 = beB 2 ((m.bd.length : Nat) : Int) := rfl
  rw [a]
  exact getV_beB (by omega) (by omega) (by omega)

theorem err_ok {m : Msg} (h : m.Ck) : m.err = 0 := if_pos h

theorem decE_bytes {m : Msg} (h : m.Ck) : decE m.bytes = 0 := by
  have hl := m.bytes_len
  rw [decE, if_neg (by omega), size_bytes h, if_neg (by omega), if_neg (by omega), decM_bytes h, err_ok h]

theorem decE_cut {m : Msg} (h : m.Ck) {c : Nat} (hc : c < m.bytes.length) : decE (m.bytes.take c) = 16 := by
  have hl := m.bytes_len
  have hlen : (m.bytes.take c).length = c := by rw [List.length_take]; omega
  rw [decE]
  by_cases h1 : (m.bytes.take c).length < 18
  · rw [if_pos h1]
  · rw [if_neg h1]
    have e : ((m.bytes.take c).take 18).drop 16 = (m.bytes.take 18).drop 16 := by
      rw [List.take_take, Nat.min_eq_left (by omega)]
    rw [e, size_bytes h, if_pos (by omega)]

theorem decE_more {m : Msg} (h : m.Ck) : decE (m.bytes ++ [0]) = 17 := by
  have hl := m.bytes_len
  have hlen : (m.bytes ++ [0]).length = 19 + m.bd.length := by rw [List.length_append, hl]; simp only [List.length_cons, List.length_nil]; omega
  have e : ((m.bytes ++ [0]).take 18).drop 16 = (m.bytes.take 18).drop 16 := by
    rw [List.take_append_of_le_length (by omega)]
  rw [decE, if_neg (by omega), e, size_bytes h, if_neg (by omega), if_pos (by omega)]

theorem cons_of {n : Nat} {l : List Int} (h : n + 1 ≤ l.length) : ∃ a t, l = a :: t ∧ n ≤ t.length := by
  cases l with
  | nil => simp at h
  | cons a t => exact ⟨a, t, rfl, by simp at h; exact h⟩

/-- Bytes that are a message are those that it is written in. -/
theorem bytes_decM {b : List Int} (hb : InB b) (h : decE b = 0) : (decM b).Ck ∧ (decM b).bytes = b ∧ InB (decM b).bd := by
  rw [decE] at h
  split at h
  · cases h
  rename_i h1
  split at h
  · cases h
  rename_i h2
  split at h
  · cases h
  rename_i h3
  have hck : (decM b).Ck := by
    unfold Msg.err at h
    split at h
    · assumption
    · cases h
  refine ⟨hck, ?_, fun a ha => hb a (List.mem_of_mem_drop ha)⟩
  obtain ⟨k1, k2, e1, e2, f1, f2, w1, w2, t1, t2, r1, r2, n⟩ := Msg.Ck_all hck
  have q18 : 18 ≤ b.length := by omega
  obtain ⟨x0, b0, rfl, q17⟩ := cons_of (n := 17) q18
  obtain ⟨x1, b1, rfl, q16⟩ := cons_of (n := 16) q17
  obtain ⟨x2, b2, rfl, q15⟩ := cons_of (n := 15) q16
  obtain ⟨x3, b3, rfl, q14⟩ := cons_of (n := 14) q15
  obtain ⟨x4, b4, rfl, q13⟩ := cons_of (n := 13) q14
  obtain ⟨x5, b5, rfl, q12⟩ := cons_of (n := 12) q13
  obtain ⟨x6, b6, rfl, q11⟩ := cons_of (n := 11) q12
  obtain ⟨x7, b7, rfl, q10⟩ := cons_of (n := 10) q11
  obtain ⟨x8, b8, rfl, q9⟩ := cons_of (n := 9) q10
  obtain ⟨x9, b9, rfl, q8⟩ := cons_of (n := 8) q9
  obtain ⟨x10, b10, rfl, q7⟩ := cons_of (n := 7) q8
  obtain ⟨x11, b11, rfl, q6⟩ := cons_of (n := 6) q7
  obtain ⟨x12, b12, rfl, q5⟩ := cons_of (n := 5) q6
  obtain ⟨x13, b13, rfl, q4⟩ := cons_of (n := 4) q5
  obtain ⟨x14, b14, rfl, q3⟩ := cons_of (n := 3) q4
  obtain ⟨x15, b15, rfl, q2⟩ := cons_of (n := 2) q3
  obtain ⟨x16, b16, rfl, q1⟩ := cons_of (n := 1) q2
  obtain ⟨x17, b17, rfl, q0⟩ := cons_of (n := 0) q1
  simp only [InB, List.forall_mem_cons] at hb
  obtain ⟨c0, c1, c2, c3, c4, c5, c6, c7, c8, c9, c10, c11, c12, c13, c14, c15, c16, c17, hr⟩ := hb
  have g4 : InB [x1, x2, x3, x4] := inB_cons c1 (inB_cons c2 (inB_cons c3 (inB_cons c4 inB_nil)))
  have g8 : InB [x8, x9, x10, x11, x12, x13, x14, x15] := inB_cons c8 (inB_cons c9 (inB_cons c10 (inB_cons c11 (inB_cons c12 (inB_cons c13 (inB_cons c14 (inB_cons c15 inB_nil)))))))
  have g2 : InB [x16, x17] := inB_cons c16 (inB_cons c17 inB_nil)
  have p4 : 0 ≤ be [x1, x2, x3, x4] ∧ be [x1, x2, x3, x4] < 256 ^ 4 := be_range g4
  have p8 : 0 ≤ be [x8, x9, x10, x11, x12, x13, x14, x15] ∧ be [x8, x9, x10, x11, x12, x13, x14, x15] < 256 ^ 8 := be_range g8
  have p2 : 0 ≤ be [x16, x17] ∧ be [x16, x17] < 256 ^ 2 := be_range g2
  have v4 : getV [x1, x2, x3, x4] = be [x1, x2, x3, x4] := wrap_i64 (by omega) (by omega)
  have v2 : getV [x16, x17] = be [x16, x17] := wrap_i64 (by omega) (by omega)
  have r1' : 0 ≤ getV [x8, x9, x10, x11, x12, x13, x14, x15] := r1
  have v8 : getV [x8, x9, x10, x11, x12, x13, x14, x15] = be [x8, x9, x10, x11, x12, x13, x14, x15] := by
    unfold getV at r1' ⊢
    rw [IntKind.wrap_i64] at *
    omega
  have h2' : ¬ ((b17.length : Nat) : Int) < getV [x16, x17] := h2
  have h3' : ¬ ((b17.length : Nat) : Int) > getV [x16, x17] := h3
  have hsz : ((b17.length : Nat) : Int) = be [x16, x17] := by omega
  have small : ∀ x : Int, 0 ≤ x ∧ x < 256 → IntKind.wrap .u8 (IntKind.wrap .i64 x) = x := fun x hx => by
    rw [wrap_i64 (by omega) (by omega), IntKind.wrap_u8]
    omega
  have b4 : beB 4 (getV [x1, x2, x3, x4]) = [x1, x2, x3, x4] := by rw [v4]; exact beB_be g4
  have b8 : beB 8 (getV [x8, x9, x10, x11, x12, x13, x14, x15]) = [x8, x9, x10, x11, x12, x13, x14, x15] := by rw [v8]; exact beB_be g8
  have b2 : beB 2 ((b17.length : Nat) : Int) = [x16, x17] := by rw [hsz]; exact beB_be g2
  show ((((([IntKind.wrap .u8 (IntKind.wrap .i64 x0)] ++ beB 4 (getV [x1, x2, x3, x4])) ++ [IntKind.wrap .u8 (IntKind.wrap .i64 x5), IntKind.wrap .u8 (IntKind.wrap .i64 x6), IntKind.wrap .u8 (IntKind.wrap .i64 x7)]) ++ beB 8 (getV [x8, x9, x10, x11, x12, x13, x14, x15])) ++ beB 2 ((b17.length : Nat) : Int)) ++ b17) = _
  rw [b4, b8, b2, small x0 c0, small x5 c5, small x6 c6, small x7 c7]
  rfl

end Go.Num

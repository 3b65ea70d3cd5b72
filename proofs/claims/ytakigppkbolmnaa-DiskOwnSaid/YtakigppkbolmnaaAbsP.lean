/- An evaluator over descriptions of values: functions that work on their caller's boxes. -/
import Derived.Test.YtakigppkbolmnaaAbsL
namespace Go.Abs
open Go.RowKit
section
variable (P : Program) (D : Dom)

def enumA {τ : Type} : Nat → List (A0 τ) → List (Nat × AV τ)
  | _, [] => []
  | i, x :: xs => (i, .v x) :: enumA (i + 1) xs

def enumB {τ : Type} : Nat → List (BoxSt τ) → List (Nat × BoxSt τ)
  | _, [] => []
  | i, x :: xs => (i, x) :: enumB (i + 1) xs

/-- How such a function begins. -/
def St.startO (n : Nat) (xs : List (A0 D.τ)) (bs : List (BoxSt D.τ)) : St D.τ := ⟨argSlots D 0 xs, (bst bs.length bs).box, n, bs.length⟩

def snO {τ : Type} (n : Nat) (p : List (BoxSt τ) × List (A0 τ)) : Sn τ := ⟨enumA 0 p.2, enumB 0 p.1, n, p.1.length⟩

def retA {τ : Type} : List (A0 τ) → AV τ
  | [a] => .v a
  | as => .tup as

/-- A function that works on its caller's boxes, carried out from written boxes and arguments to written ones: what must hold. -/
def runO (Γ : Gam D) (fuel : Nat) (fn : Func) (p : List (BoxSt D.τ) × List (A0 D.τ)) (ds : List (Dec D.τ)) (r : AV D.τ) (bs' : List (BoxSt D.τ)) : Option (List Prop) :=
  match fn.body with
  | some c => match exec P D Γ fuel c p.1.length (snO fn.ntmps p).st ds with
    | some ⟨.exit _, _, _, _, _⟩ => none
    | some ⟨_, S, ps, _, _⟩ => match resList P D S fn.results.toList with
      | some (as, cs) => match fitSt D ⟨fun t => bif Nat.beq t 0 then some (retA as) else none, S.box, 1, S.np⟩ ⟨[(0, r)], enumB 0 bs', 1, p.1.length⟩ with
        | some qs => some (ps ++ (cs ++ qs))
        | none => none
      | none => none
    | none => none
  | none => none

/-- A contract: how the boxes and arguments are read, how they are written out, and what comes of them. -/
def mkF {θ : Type} (n : Nat) (rd : List (BoxSt D.τ) → List (A0 D.τ) → Option θ) (pre : θ → List (BoxSt D.τ) × List (A0 D.τ)) (post : θ → Option (AV D.τ × List (BoxSt D.τ) × List Prop))
    (bs : List (BoxSt D.τ)) (xs : List (A0 D.τ)) : Option (AV D.τ × List (BoxSt D.τ) × List Prop) :=
  bif Nat.ble xs.length n then match rd bs xs with
  | some t => match fitSt D (St.startO D n xs bs) (snO n (pre t)) with
    | some qs => match post t with
      | some (r, bs', ps) => some (r, bs', qs ++ ps)
      | none => none
    | none => none
  | none => none
  else none

end
section
variable {P : Program} {D : Dom}

theorem RR.same {M : Mem} {w0 : World} {σ : Loc} {ν : Nat → Value} {S S' : St D.τ} {w : World} (h : RR D M w0 σ ν S w) (hb : S'.box = S.box) (hn : S'.np = S.np) : RR D M w0 σ ν S' w := by
  obtain ⟨a, b, c, d⟩ := S
  obtain ⟨a', b', c', d'⟩ := S'
  simp only at hb hn
  subst hb hn
  exact ⟨h.boxes, h.disj, h.lo, h.kept, h.zk, h.zd, h.pins, h.glob, h.z0, h.zn⟩

theorem env_same {M : Mem} {w0 : World} {σ : Loc} {ν : Nat → Value} {S S' : St D.τ} (hb : S'.box = S.box) : S'.env D M w0 σ ν = S.env D M w0 σ ν := by
  unfold St.env
  rw [hb]

theorem a0s_len {E : Env} : ∀ {xs : List (A0 D.τ)} {vs : List Value}, A0sRel D E xs vs → vs.length = xs.length
  | [], _, h => by cases h; rfl
  | _ :: _, _, ⟨v, us, e, _, h⟩ => by subst e; simp [a0s_len h]

theorem assoc_enumB {τ : Type} : ∀ (bs : List (BoxSt τ)) (k i : Nat), orUn (assoc (enumB k bs) (k + i)) = (bs[i]?).getD .un
  | [], k, i => rfl
  | b :: bs, k, i => by
    show orUn (bif Nat.beq (k + i) k then some b else assoc (enumB (k + 1) bs) (k + i)) = _
    cases i with
    | zero => rw [Nat.add_zero, Nat.beq_refl]; rfl
    | succ i =>
      rw [beq_ne (by omega), show k + (i + 1) = (k + 1) + i from by omega]
      simp only [cond_false]
      rw [assoc_enumB bs (k + 1) i]
      simp

theorem retA_rel {E : Env} : ∀ {as : List (A0 D.τ)} {vs : List Value}, A0sRel D E as vs → AVRel D E (retA as) (retOf vs)
  | [], vs, h => by cases h; exact ⟨[], rfl, rfl⟩
  | [a], vs, h => by
    obtain ⟨v, us, rfl, h1, h2⟩ := h
    cases h2
    exact h1
  | a :: b :: as, vs, h => by
    have h' := h
    obtain ⟨v, us, rfl, h1, v2, us2, rfl, h3⟩ := h
    exact ⟨_, rfl, h'⟩

/-- A contract holds, if it comes out from the written boxes and arguments to the written results. -/
theorem opOK_mkG (hm : P.follows .mixedOrders = true) {f : FuncId} {fn : Func} {θ : Type} {rd : List (BoxSt D.τ) → List (A0 D.τ) → Option θ} {pre : θ → List (BoxSt D.τ) × List (A0 D.τ)}
    {post : θ → Option (AV D.τ × List (BoxSt D.τ) × List Prop)} (hf : P.funcs[f]? = some fn) (hc : ∀ args w, (callFunc f args).run P w = .ok (.enter f args) w)
    (h : ∀ t r bs' ps, post t = some (r, bs', ps) → AllQ ps → ∃ Γ fuel ds, GamOK P D Γ ∧ ∃ qs, runO P D Γ fuel fn (pre t) ds r bs' = some qs ∧ AllQ qs) :
    OpOK P D f (mkF D fn.ntmps rd pre post) := by
  intro bs xs r bs' ps hF hps w σ ν vs hst hxs
  unfold mkF at hF
  cases hxl : Nat.ble xs.length fn.ntmps <;> simp only [hxl, cond_true, cond_false] at hF
  · cases hF
  have hxl := Nat.le_of_ble_eq_true hxl
  split at hF
  · rename_i t hrd
    split at hF
    · rename_i q0 hq0
      split at hF
      · rename_i r1 bs1 p1 hpost
        simp only [Option.some.injEq, Prod.mk.injEq] at hF
        obtain ⟨rfl, rfl, rfl⟩ := hF
        obtain ⟨Γ, fuel, ds, hΓ, qs, hrun, hqs⟩ := h t r1 bs1 p1 hpost (fun p hp => hps p (List.mem_append_right _ hp))
        refine ⟨_, _, hc _ w, ?_⟩
        unfold runO at hrun
        split at hrun
        · rename_i c hbody
          have hlen : vs.length = xs.length := by
            exact a0s_len hxs
          have hn : vs.length ≤ fn.ntmps := by rw [hlen]; exact hxl
          refine calls_of_wp hf hbody ?_
          have hR0 : R D (opMem D w σ ν bs) w (St.startO D fn.ntmps xs bs) ⟨vs.toArray ++ Array.replicate (fn.ntmps - vs.toArray.size) undef, []⟩ w := by
            refine ⟨σ, ν, hst.same rfl rfl, ⟨by simp [St.startO]; omega, rfl, fun s av hs => ?_⟩⟩
            obtain ⟨a, h1, h2, rfl⟩ := argSlots_get hs
            obtain ⟨v, hv, hr⟩ := hxs.get h2
            rw [Nat.sub_zero] at hv
            have hlt : s < vs.length := (List.getElem?_eq_some_iff.1 hv).1
            have e : (vs.toArray ++ Array.replicate (fn.ntmps - vs.toArray.size) undef).getD s undef = v := by
              simp only [Array.getD_eq_getD_getElem?, Array.getElem?_append, List.size_toArray, hlt, if_true, List.getElem?_toArray, hv, Option.getD_some]
            rw [e]
            exact hr
          have hR1 := fitSt_sound hq0 (fun p hp => hps p (List.mem_append_left _ hp)) hR0
          split at hrun
          · cases hrun
          · rename_i e S qs1 ds1 n1 hne he
            split at hrun
            · rename_i as cs hres
              split at hrun
              · rename_i q2 hq2
                simp only [Option.some.injEq] at hrun
                subst hrun
                refine exec_sound hΓ hm fuel c _ _ _ _ he hqs.append.1 _ w _ _ _ hR1 (fun a' w' hR => ?_)
                obtain ⟨σ2, ν2, hR2, hA2⟩ := hR
                obtain ⟨vs', e1, hvs'⟩ := resList_rel hR2 hA2 hres hqs.append.2.append.1
                have hret : AVRel D (S.env D (opMem D w σ ν bs) w σ2 ν2) (retA as) (retOf vs') := by
                  exact retA_rel hvs'
                have hR3 : R D (opMem D w σ ν bs) w ⟨fun t => bif Nat.beq t 0 then some (retA as) else none, S.box, 1, S.np⟩ ⟨#[retOf vs'], []⟩ w' := by
                  refine ⟨σ2, ν2, hR2.same rfl rfl, ⟨rfl, rfl, fun s av hs => ?_⟩⟩
                  have hs' : (bif Nat.beq s 0 then some (retA as) else none) = some av := hs
                  by_cases h0 : s = 0
                  · subst h0
                    rw [Nat.beq_refl] at hs'
                    simp only [cond_true, Option.some.injEq] at hs'
                    subst hs'
                    exact hret
                  · rw [beq_ne h0] at hs'
                    cases hs'
                obtain ⟨σ', ν', hR4, hA4⟩ := fitSt_sound hq2 hqs.append.2.append.2 hR3
                have hbl : (pre t).1.length = bs.length := by
                  exact (fitSt_np hq0).symm
                have hbox : (bst bs.length bs1).box = (Sn.st ⟨[(0, r1)], enumB 0 bs1, 1, (pre t).1.length⟩).box := by
                  funext i
                  rw [bst_box]
                  show _ = orUn (assoc (enumB 0 bs1) i)
                  have := assoc_enumB bs1 0 i
                  rw [Nat.zero_add] at this
                  exact this.symm
                have hfin : ∃ v, (results fn a'.tmps).run P w' = .ok v w' ∧ ∃ v', Ending.returned v = .returned v' ∧ ∃ σ' ν', RR D (opMem D w σ ν bs) w σ' ν' (bst bs.length bs1) w' ∧ AVRel D ((bst bs.length bs1).env D (opMem D w σ ν bs) w σ' ν') r1 v' := by
                  refine ⟨_, run_results e1, _, rfl, σ', ν', hR4.same hbox (by show bs.length = (pre t).1.length; exact hbl.symm), ?_⟩
                  have := hA4.slots 0 r1 rfl
                  rw [← env_same hbox] at this
                  exact this
                have hgo : a'.defers = [] ∧ ∃ v, (results fn a'.tmps).run P w' = .ok v w' ∧ ∃ v', Ending.returned v = .returned v' ∧ ∃ σ' ν', RR D (opMem D w σ ν bs) w σ' ν' (bst bs.length bs1) w' ∧ AVRel D ((bst bs.length bs1).env D (opMem D w σ ν bs) w σ' ν') r1 v' := ⟨hA2.defers, hfin⟩
                cases e
                · exact hgo
                · exact (hne _ rfl).elim
                · exact hgo
              · cases hrun
            · cases hrun
          · cases hrun
        · cases hrun
      · cases hF
    · cases hF
  · cases hF

theorem opOK_mk {Γ : Gam D} (hΓ : GamOK P D Γ) (hm : P.follows .mixedOrders = true) {f : FuncId} {fn : Func} {θ : Type} {rd : List (BoxSt D.τ) → List (A0 D.τ) → Option θ} {pre : θ → List (BoxSt D.τ) × List (A0 D.τ)}
    {post : θ → Option (AV D.τ × List (BoxSt D.τ) × List Prop)} (hf : P.funcs[f]? = some fn) (hc : ∀ args w, (callFunc f args).run P w = .ok (.enter f args) w)
    (h : ∀ t r bs' ps, post t = some (r, bs', ps) → AllQ ps → ∃ fuel ds qs, runO P D Γ fuel fn (pre t) ds r bs' = some qs ∧ AllQ qs) :
    OpOK P D f (mkF D fn.ntmps rd pre post) :=
  opOK_mkG hm hf hc fun t r bs' ps h1 h2 => by
    obtain ⟨fuel, ds, qs, h3, h4⟩ := h t r bs' ps h1 h2
    exact ⟨Γ, fuel, ds, hΓ, qs, h3, h4⟩

/-- A contract, or else another one. -/
def orF {D : Dom} (F G : List (BoxSt D.τ) → List (A0 D.τ) → Option (AV D.τ × List (BoxSt D.τ) × List Prop)) (bs : List (BoxSt D.τ)) (xs : List (A0 D.τ)) : Option (AV D.τ × List (BoxSt D.τ) × List Prop) :=
  match F bs xs with
  | some r => some r
  | none => G bs xs

theorem opOK_or {P : Program} {D : Dom} {f : FuncId} {F G : List (BoxSt D.τ) → List (A0 D.τ) → Option (AV D.τ × List (BoxSt D.τ) × List Prop)} (hF : OpOK P D f F) (hG : OpOK P D f G) :
    OpOK P D f (orF F G) := by
  intro bs xs r bs' ps h
  unfold orF at h
  split at h
  · rename_i q hq
    cases h
    exact hF bs xs r bs' ps hq
  · exact hG bs xs r bs' ps h

/-- A contract of a callee that looks at boxes, as they are, and makes new ones. -/
theorem opOK_mkR (hm : P.follows .mixedOrders = true) {f : FuncId} {fn : Func} {θ : Type} {rd : List (BoxSt D.τ) → List (A0 D.τ) → Option θ} {pre : θ → List (BoxSt D.τ) × List (A0 D.τ)}
    {post : θ → Option (AV D.τ × List (BoxSt D.τ) × List Prop)} (hf : P.funcs[f]? = some fn) (hc : ∀ args w, (callFunc f args).run P w = .ok (.enter f args) w) (hrd : ∀ bs xs t, rd bs xs = some t → (pre t).1 = bs)
    (h : ∀ t r ns ps, post t = some (r, ns, ps) → AllQ ps → ∃ Γ fuel ds, GamOK P D Γ ∧ ∃ qs, runO P D Γ fuel fn (pre t) ds r ((pre t).1 ++ ns) = some qs ∧ AllQ qs) :
    OpOK P D f (withNew (mkF D fn.ntmps rd pre post)) := by
  have he : withNew (mkF D fn.ntmps rd pre post) = mkF D fn.ntmps rd pre (fun t => match post t with | some (r, ns, ps) => some (r, (pre t).1 ++ ns, ps) | none => none) := by
    funext bs xs
    unfold withNew mkF
    cases Nat.ble xs.length fn.ntmps <;> simp only [cond_true, cond_false]
    cases hr : rd bs xs with
    | none => rfl
    | some t =>
      have hb := hrd bs xs t hr
      simp only
      cases fitSt D (St.startO D fn.ntmps xs bs) (snO fn.ntmps (pre t)) with
      | none => rfl
      | some qs =>
        simp only
        cases post t with
        | none => rfl
        | some x =>
          obtain ⟨r, ns, ps⟩ := x
          simp only [hb]
  rw [he]
  refine opOK_mkG hm hf hc fun t r bs' ps h1 h2 => ?_
  split at h1
  · rename_i r0 ns ps0 hp
    cases h1
    exact h t _ ns _ hp h2
  · cases h1

end
end Go.Abs

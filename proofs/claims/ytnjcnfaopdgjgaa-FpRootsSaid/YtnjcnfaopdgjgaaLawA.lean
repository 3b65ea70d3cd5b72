/- A field's laws: what they call. -/
import Derived.Test.YtnjcnfaopdgjgaaEl10
import Derived.Test.YtnjcnfaopdgjgaaRef4
namespace Go.Num
open Go.Abs Go.Proofs Go.Shelf

/-- As fnOK_of, what the callees do being told anew for each argument. -/
theorem fnOK_ofG {P : Program} {D : Dom} (hm : P.follows .mixedOrders = true) {f : FuncId} {fn : Func} {F : FnD D} (hf : P.funcs[f]? = some fn)
    (hc : ∀ args w, (callFunc f args).run P w = .ok (.enter f args) w)
    (h : ∀ xs r ps, F xs = some (r, ps) → AllQ ps → ∃ Γ, GamOK P D Γ ∧ ∃ xs' fuel ds r' qs, (∀ w vs, A0sRel D (cenv w) xs vs → A0sRel D (cenv w) xs' vs) ∧ runF P D Γ fuel fn xs' ds = some (r', qs) ∧ AllQ qs ∧
      ∀ E v, AVRel D E r' v → AVRel D E r v) : FnOK P D f F := by
  intro xs r ps hF hps w vs hx
  obtain ⟨Γ, hΓ, xs', fuel, ds, r', qs, h1, h2, h3, h4⟩ := h xs r ps hF hps
  refine ⟨_, hc _ w, ?_⟩
  refine (runF_calls hΓ hm hf h2 h3 (h1 w vs hx)).mono ?_
  rintro e w' ⟨v, he, ⟨ν, hd, hr⟩, hb⟩
  exact ⟨v, he, ⟨ν, hd, h4 _ _ hr⟩, hb⟩

/-! the inverse -/

/-- The power that is the inverse. -/
def invOf (a : Int) : Int := a ^ invE

def powD (L : List Int) (f : Int → Int) : FnD FD
  | [.agg p, .agg q] => match elOf p, allInts .u64 q with
    | some a, some l => if l = L then some (.v (.agg [.tag (.el (f a))]), []) else none
    | _, _ => none
  | _ => none

theorem lits_of {E : Env} : ∀ {l : List Int} {cs : List Value}, cs = l.map (Value.int .u64) → PartsRel FD E (litsP l) cs
  | [], _, h => h
  | a :: l, _, h => ⟨[.int .u64 a], l.map (Value.int .u64), h, rfl, lits_of (l := l) rfl⟩

theorem lits_rel {E : Env} {l : List Int} {ps : List (Part FD.τ)} {v : Value} (h : allInts .u64 ps = some l) (hv : A0Rel FD E (.agg ps) v) : A0Rel FD E (.agg (litsP l)) v := by
  obtain ⟨cs, e, hp⟩ := hv
  exact ⟨cs, e, lits_of (allInts_rel h hp)⟩

theorem el_pow1 {E : Env} {a : Int} {v : Value} (h : A0Rel FD E (.agg [.tag (.el a)]) v) : A0Rel FD E (.agg [.tag (.pow a 1)]) v := by
  refine pow_el.2 ?_
  rw [Int.pow_succ, Int.pow_zero, Int.one_mul]
  exact h

theorem powInv_ok : FnOK Try.prog FD 47 (powD invL invOf) := by
  refine fnOK_ofG mixed Try.func47 (enters_of Try.func47 (by kernel_rfl) rfl) ?_
  intro xs r ps h hps
  unfold powD at h
  split at h
  · rename_i p q
    split at h
    · rename_i a l ha hl
      split at h
      · rename_i hL
        simp only [Option.some.injEq, Prod.mk.injEq] at h
        obtain ⟨rfl, rfl⟩ := h
        subst hL
        refine ⟨gamP a, gamP_ok a, _, 600, _, _, _, fun w vs h => args2 (fun v hv => el_pow1 (elOf_rel ha hv)) (fun v hv => lits_rel hl hv) h, inv_pow a, ?_, fun E v hv => pow_el.1 hv⟩
        intro p hp
        rw [List.eq_of_mem_replicate hp]
      · cases h
    · cases h
  · cases h

def gam6 : Gam FD := (47, powD invL invOf) :: gam5
theorem gam6_ok : GamOK Try.prog FD gam6 := gam_cons powInv_ok gam5_ok

theorem inv_run_r (a : Int) : runF Try.prog FD gam6 100 Try.f23 [.agg [.tag (.el a)]] [] =
    some ((Go.Abs.AV.v (Go.Abs.A0.agg ((Go.Abs.Part.tag (Go.Num.T.el (Go.Num.invOf a))) :: ([] : List (Part FD.τ))))), []) := by kernel_rfl
theorem inv_run (a : Int) :
    ∃ ps, runF Try.prog FD gam6 100 Try.f23 [.agg [.tag (.el a)]] [] = some ((Go.Abs.AV.v (Go.Abs.A0.agg ((Go.Abs.Part.tag (Go.Num.T.el (Go.Num.invOf a))) :: ([] : List (Part FD.τ))))), ps) ∧ AllQ ps := ⟨_, inv_run_r a, allQ_nil⟩

theorem inv_ok : FnOK Try.prog FD 23 (el1D invOf) := by
  refine el1_ok gam6_ok Try.func23 (enters_of Try.func23 (by kernel_rfl) rfl) (fun a => ?_)
  obtain ⟨ps, h1, h2⟩ := inv_run a
  exact ⟨_, _, _, _, h1, h2, fld.enc_R _⟩

/-! the modulus in words of 16 bits -/

def modRefD : FnD FD
  | [] => some (.v (.one (.fresh 0 54 .u32 (W 24 fld.m))), [])
  | _ => none

def gamH : Gam FD := [(51, hexD FD)]
theorem gamH_ok : GamOK Try.prog FD gamH := gam_cons (hex_ok FD) gam_nil

theorem modref_run_r  : runF Try.prog FD gamH 100 Try.f28 [] [] =
    some ((Go.Abs.AV.v (Go.Abs.A0.one (Go.Abs.Part.fresh (0 : Nat) (54 : TypeId) Go.IntKind.u32 (Go.Num.W (((96 : Nat) + (3 : Nat)) / (4 : Nat)) (Go.Num.hexN ((49 : UInt8) :: ((97 : UInt8) :: ((48 : UInt8) :: ((49 : UInt8) :: ((49 : UInt8) :: ((49 : UInt8) :: ((101 : UInt8) :: ((97 : UInt8) :: ((51 : UInt8) :: ((57 : UInt8) :: ((55 : UInt8) :: ((102 : UInt8) :: ((101 : UInt8) :: ((54 : UInt8) :: ((57 : UInt8) :: ((97 : UInt8) :: ((52 : UInt8) :: ((98 : UInt8) :: ((49 : UInt8) :: ((98 : UInt8) :: ((97 : UInt8) :: ((55 : UInt8) :: ((98 : UInt8) :: ((54 : UInt8) :: ((52 : UInt8) :: ((51 : UInt8) :: ((52 : UInt8) :: ((98 : UInt8) :: ((97 : UInt8) :: ((99 : UInt8) :: ((100 : UInt8) :: ((55 : UInt8) :: ((54 : UInt8) :: ((52 : UInt8) :: ((55 : UInt8) :: ((55 : UInt8) :: ((52 : UInt8) :: ((98 : UInt8) :: ((56 : UInt8) :: ((52 : UInt8) :: ((102 : UInt8) :: ((51 : UInt8) :: ((56 : UInt8) :: ((53 : UInt8) :: ((49 : UInt8) :: ((50 : UInt8) :: ((98 : UInt8) :: ((102 : UInt8) :: ((54 : UInt8) :: ((55 : UInt8) :: ((51 : UInt8) :: ((48 : UInt8) :: ((100 : UInt8) :: ((50 : UInt8) :: ((97 : UInt8) :: ((48 : UInt8) :: ((102 : UInt8) :: ((54 : UInt8) :: ((98 : UInt8) :: ((48 : UInt8) :: ((102 : UInt8) :: ((54 : UInt8) :: ((50 : UInt8) :: ((52 : UInt8) :: ((49 : UInt8) :: ((101 : UInt8) :: ((97 : UInt8) :: ((98 : UInt8) :: ((102 : UInt8) :: ((102 : UInt8) :: ((102 : UInt8) :: ((101 : UInt8) :: ((98 : UInt8) :: ((49 : UInt8) :: ((53 : UInt8) :: ((51 : UInt8) :: ((102 : UInt8) :: ((102 : UInt8) :: ((102 : UInt8) :: ((102 : UInt8) :: ((98 : UInt8) :: ((57 : UInt8) :: ((102 : UInt8) :: ((101 : UInt8) :: ((102 : UInt8) :: ((102 : UInt8) :: ((102 : UInt8) :: ((102 : UInt8) :: ((102 : UInt8) :: ((102 : UInt8) :: ((102 : UInt8) :: ((102 : UInt8) :: ((97 : UInt8) :: ((97 : UInt8) :: ((97 : UInt8) :: ((98 : UInt8) :: ([] : List (UInt8))))))))))))))))))))))))))))))))))))))))))))))))))))))))))))))))))))))))))))))))))))))))))))))))))))))), [((List.all ((49 : UInt8) :: ((97 : UInt8) :: ((48 : UInt8) :: ((49 : UInt8) :: ((49 : UInt8) :: ((49 : UInt8) :: ((101 : UInt8) :: ((97 : UInt8) :: ((51 : UInt8) :: ((57 : UInt8) :: ((55 : UInt8) :: ((102 : UInt8) :: ((101 : UInt8) :: ((54 : UInt8) :: ((57 : UInt8) :: ((97 : UInt8) :: ((52 : UInt8) :: ((98 : UInt8) :: ((49 : UInt8) :: ((98 : UInt8) :: ((97 : UInt8) :: ((55 : UInt8) :: ((98 : UInt8) :: ((54 : UInt8) :: ((52 : UInt8) :: ((51 : UInt8) :: ((52 : UInt8) :: ((98 : UInt8) :: ((97 : UInt8) :: ((99 : UInt8) :: ((100 : UInt8) :: ((55 : UInt8) :: ((54 : UInt8) :: ((52 : UInt8) :: ((55 : UInt8) :: ((55 : UInt8) :: ((52 : UInt8) :: ((98 : UInt8) :: ((56 : UInt8) :: ((52 : UInt8) :: ((102 : UInt8) :: ((51 : UInt8) :: ((56 : UInt8) :: ((53 : UInt8) :: ((49 : UInt8) :: ((50 : UInt8) :: ((98 : UInt8) :: ((102 : UInt8) :: ((54 : UInt8) :: ((55 : UInt8) :: ((51 : UInt8) :: ((48 : UInt8) :: ((100 : UInt8) :: ((50 : UInt8) :: ((97 : UInt8) :: ((48 : UInt8) :: ((102 : UInt8) :: ((54 : UInt8) :: ((98 : UInt8) :: ((48 : UInt8) :: ((102 : UInt8) :: ((54 : UInt8) :: ((50 : UInt8) :: ((52 : UInt8) :: ((49 : UInt8) :: ((101 : UInt8) :: ((97 : UInt8) :: ((98 : UInt8) :: ((102 : UInt8) :: ((102 : UInt8) :: ((102 : UInt8) :: ((101 : UInt8) :: ((98 : UInt8) :: ((49 : UInt8) :: ((53 : UInt8) :: ((51 : UInt8) :: ((102 : UInt8) :: ((102 : UInt8) :: ((102 : UInt8) :: ((102 : UInt8) :: ((98 : UInt8) :: ((57 : UInt8) :: ((102 : UInt8) :: ((101 : UInt8) :: ((102 : UInt8) :: ((102 : UInt8) :: ((102 : UInt8) :: ((102 : UInt8) :: ((102 : UInt8) :: ((102 : UInt8) :: ((102 : UInt8) :: ((102 : UInt8) :: ((97 : UInt8) :: ((97 : UInt8) :: ((97 : UInt8) :: ((98 : UInt8) :: ([] : List (UInt8)))))))))))))))))))))))))))))))))))))))))))))))))))))))))))))))))))))))))))))))))))))))))))))))))) Go.Num.okDig) = Bool.true), ((96 : Nat) ≤ (1000000 : Nat))]) := by kernel_rfl
theorem modref_run  :
    ∃ ps, runF Try.prog FD gamH 100 Try.f28 [] [] = some ((Go.Abs.AV.v (Go.Abs.A0.one (Go.Abs.Part.fresh (0 : Nat) (54 : TypeId) Go.IntKind.u32 (Go.Num.W (((96 : Nat) + (3 : Nat)) / (4 : Nat)) (Go.Num.hexN ((49 : UInt8) :: ((97 : UInt8) :: ((48 : UInt8) :: ((49 : UInt8) :: ((49 : UInt8) :: ((49 : UInt8) :: ((101 : UInt8) :: ((97 : UInt8) :: ((51 : UInt8) :: ((57 : UInt8) :: ((55 : UInt8) :: ((102 : UInt8) :: ((101 : UInt8) :: ((54 : UInt8) :: ((57 : UInt8) :: ((97 : UInt8) :: ((52 : UInt8) :: ((98 : UInt8) :: ((49 : UInt8) :: ((98 : UInt8) :: ((97 : UInt8) :: ((55 : UInt8) :: ((98 : UInt8) :: ((54 : UInt8) :: ((52 : UInt8) :: ((51 : UInt8) :: ((52 : UInt8) :: ((98 : UInt8) :: ((97 : UInt8) :: ((99 : UInt8) :: ((100 : UInt8) :: ((55 : UInt8) :: ((54 : UInt8) :: ((52 : UInt8) :: ((55 : UInt8) :: ((55 : UInt8) :: ((52 : UInt8) :: ((98 : UInt8) :: ((56 : UInt8) :: ((52 : UInt8) :: ((102 : UInt8) :: ((51 : UInt8) :: ((56 : UInt8) :: ((53 : UInt8) :: ((49 : UInt8) :: ((50 : UInt8) :: ((98 : UInt8) :: ((102 : UInt8) :: ((54 : UInt8) :: ((55 : UInt8) :: ((51 : UInt8) :: ((48 : UInt8) :: ((100 : UInt8) :: ((50 : UInt8) :: ((97 : UInt8) :: ((48 : UInt8) :: ((102 : UInt8) :: ((54 : UInt8) :: ((98 : UInt8) :: ((48 : UInt8) :: ((102 : UInt8) :: ((54 : UInt8) :: ((50 : UInt8) :: ((52 : UInt8) :: ((49 : UInt8) :: ((101 : UInt8) :: ((97 : UInt8) :: ((98 : UInt8) :: ((102 : UInt8) :: ((102 : UInt8) :: ((102 : UInt8) :: ((101 : UInt8) :: ((98 : UInt8) :: ((49 : UInt8) :: ((53 : UInt8) :: ((51 : UInt8) :: ((102 : UInt8) :: ((102 : UInt8) :: ((102 : UInt8) :: ((102 : UInt8) :: ((98 : UInt8) :: ((57 : UInt8) :: ((102 : UInt8) :: ((101 : UInt8) :: ((102 : UInt8) :: ((102 : UInt8) :: ((102 : UInt8) :: ((102 : UInt8) :: ((102 : UInt8) :: ((102 : UInt8) :: ((102 : UInt8) :: ((102 : UInt8) :: ((97 : UInt8) :: ((97 : UInt8) :: ((97 : UInt8) :: ((98 : UInt8) :: ([] : List (UInt8))))))))))))))))))))))))))))))))))))))))))))))))))))))))))))))))))))))))))))))))))))))))))))))))))))))), ps) ∧ AllQ ps := ⟨_, modref_run_r , AllP.all ⟨(show ((List.all ((49 : UInt8) :: ((97 : UInt8) :: ((48 : UInt8) :: ((49 : UInt8) :: ((49 : UInt8) :: ((49 : UInt8) :: ((101 : UInt8) :: ((97 : UInt8) :: ((51 : UInt8) :: ((57 : UInt8) :: ((55 : UInt8) :: ((102 : UInt8) :: ((101 : UInt8) :: ((54 : UInt8) :: ((57 : UInt8) :: ((97 : UInt8) :: ((52 : UInt8) :: ((98 : UInt8) :: ((49 : UInt8) :: ((98 : UInt8) :: ((97 : UInt8) :: ((55 : UInt8) :: ((98 : UInt8) :: ((54 : UInt8) :: ((52 : UInt8) :: ((51 : UInt8) :: ((52 : UInt8) :: ((98 : UInt8) :: ((97 : UInt8) :: ((99 : UInt8) :: ((100 : UInt8) :: ((55 : UInt8) :: ((54 : UInt8) :: ((52 : UInt8) :: ((55 : UInt8) :: ((55 : UInt8) :: ((52 : UInt8) :: ((98 : UInt8) :: ((56 : UInt8) :: ((52 : UInt8) :: ((102 : UInt8) :: ((51 : UInt8) :: ((56 : UInt8) :: ((53 : UInt8) :: ((49 : UInt8) :: ((50 : UInt8) :: ((98 : UInt8) :: ((102 : UInt8) :: ((54 : UInt8) :: ((55 : UInt8) :: ((51 : UInt8) :: ((48 : UInt8) :: ((100 : UInt8) :: ((50 : UInt8) :: ((97 : UInt8) :: ((48 : UInt8) :: ((102 : UInt8) :: ((54 : UInt8) :: ((98 : UInt8) :: ((48 : UInt8) :: ((102 : UInt8) :: ((54 : UInt8) :: ((50 : UInt8) :: ((52 : UInt8) :: ((49 : UInt8) :: ((101 : UInt8) :: ((97 : UInt8) :: ((98 : UInt8) :: ((102 : UInt8) :: ((102 : UInt8) :: ((102 : UInt8) :: ((101 : UInt8) :: ((98 : UInt8) :: ((49 : UInt8) :: ((53 : UInt8) :: ((51 : UInt8) :: ((102 : UInt8) :: ((102 : UInt8) :: ((102 : UInt8) :: ((102 : UInt8) :: ((98 : UInt8) :: ((57 : UInt8) :: ((102 : UInt8) :: ((101 : UInt8) :: ((102 : UInt8) :: ((102 : UInt8) :: ((102 : UInt8) :: ((102 : UInt8) :: ((102 : UInt8) :: ((102 : UInt8) :: ((102 : UInt8) :: ((102 : UInt8) :: ((97 : UInt8) :: ((97 : UInt8) :: ((97 : UInt8) :: ((98 : UInt8) :: ([] : List (UInt8)))))))))))))))))))))))))))))))))))))))))))))))))))))))))))))))))))))))))))))))))))))))))))))))))) Go.Num.okDig) = Bool.true) from by decide), (show ((96 : Nat) ≤ (1000000 : Nat)) from by decide)⟩⟩

theorem modRef_ok : FnOK Try.prog FD 28 modRefD := by
  refine fnOK_of gamH_ok mixed Try.func28 (enters_of Try.func28 (by kernel_rfl) rfl) ?_
  intro xs r ps h hps
  unfold modRefD at h
  split at h
  · simp only [Option.some.injEq, Prod.mk.injEq] at h
    obtain ⟨rfl, rfl⟩ := h
    obtain ⟨ps, h1, h2⟩ := modref_run
    exact ⟨[], 100, [], _, _, fun w vs h => h, h1, h2, fun E v hv => by
      refine Eq.mp ?_ hv
      kernel_rfl⟩
  · cases h

/-! is, number -/

theorem m_256 : fld.m < 256 ^ 48 := by decide

def gamI : Gam FD := (39, bytesD) :: (49, bytD FD) :: (29, sameD FD) :: (27, numD FD) :: (28, modRefD) :: (26, modD FD) :: (34, readD) :: gam6
theorem gamI_ok : GamOK Try.prog FD gamI := gam_cons bytes_ok (gam_cons (byt_ok FD) (gam_cons (same_ok FD) (gam_cons (num_ok FD) (gam_cons modRef_ok (gam_cons (mod_ok FD) (gam_cons read_ok gam6_ok))))))

def isD : FnD FD
  | [.agg p, .one (.words .u32 l)] => match elOf p with
    | some a => some (.v (.one (.bool false (decide (a % fld.m = v16 l % 256 ^ 48)))), [In16 l])
    | _ => none
  | _ => none

theorem is_run_r (a : Int) (l : List Int) : runF Try.prog FD gamI 100 Try.f25 [.agg [.tag (.el a)], .one (.words .u32 l)] [.keep, .keep] =
    some ((Go.Abs.AV.v (Go.Abs.A0.one (Go.Abs.Part.bool Bool.false (decide ((Go.Num.beB (48 : Nat) (a % (Go.Num.Fld.m Go.Num.fld))) = (Go.Num.beB (48 : Nat) (Go.Num.v16 l))))))), [(Go.Num.In16 l), ((0 : Int) ≤ (48 : Int)), ((48 : Int) ≤ (281474976710656 : Int)), ((List.length (Go.Num.beB (48 : Nat) (a % (Go.Num.Fld.m Go.Num.fld)))) ≤ (9223372036854775807 : Nat)), ((List.length (Go.Num.beB (48 : Nat) (Go.Num.v16 l))) ≤ (9223372036854775807 : Nat))]) := by kernel_rfl
theorem is_run (a : Int) (l : List Int)
    (h1 : (Go.Num.In16 l))
    (h2 : ((List.length (Go.Num.beB (48 : Nat) (a % (Go.Num.Fld.m Go.Num.fld)))) ≤ (9223372036854775807 : Nat)))
    (h3 : ((List.length (Go.Num.beB (48 : Nat) (Go.Num.v16 l))) ≤ (9223372036854775807 : Nat))) :
    ∃ ps, runF Try.prog FD gamI 100 Try.f25 [.agg [.tag (.el a)], .one (.words .u32 l)] [.keep, .keep] = some ((Go.Abs.AV.v (Go.Abs.A0.one (Go.Abs.Part.bool Bool.false (decide ((Go.Num.beB (48 : Nat) (a % (Go.Num.Fld.m Go.Num.fld))) = (Go.Num.beB (48 : Nat) (Go.Num.v16 l))))))), ps) ∧ AllQ ps := ⟨_, is_run_r a l, AllP.all ⟨h1, (show ((0 : Int) ≤ (48 : Int)) from by decide), (show ((48 : Int) ≤ (281474976710656 : Int)) from by decide), h2, h3⟩⟩

theorem is_ok : FnOK Try.prog FD 25 isD := by
  refine fnOK_of gamI_ok mixed Try.func25 (enters_of Try.func25 (by kernel_rfl) rfl) ?_
  intro xs r ps h hps
  unfold isD at h
  split at h
  · rename_i p l
    split at h
    · rename_i a ha
      simp only [Option.some.injEq, Prod.mk.injEq] at h
      obtain ⟨rfl, rfl⟩ := h
      have h16 : In16 l := hps _ (by simp)
      obtain ⟨ps, h1, h2⟩ := is_run a l h16 (by rw [beB_len]; omega) (by rw [beB_len]; omega)
      refine ⟨_, 100, _, _, _, fun w vs h => args2 (fun v hv => elOf_rel ha hv) (fun v hv => hv) h, h1, h2, fun E v hv => one_bool ?_ hv⟩
      refine decide_eq_decide.2 ?_
      rw [beB_inj]
      have hr : 0 ≤ a % fld.m ∧ a % fld.m < fld.m := ⟨Int.emod_nonneg _ (by have := fld.hm; omega), Int.emod_lt_of_pos _ fld.pos⟩
      rw [Int.emod_eq_of_lt hr.1 (by have := m_256; omega)]
    · cases h
  · cases h

def numberD : FnD FD
  | [.one (.words .u8 l)] => some (.tup [.one (.fresh 0 54 .u32 (W 24 (be l % fld.m))), .agg [.tag (.el (be l))]], [InB l, l.length ≤ 1000000])
  | _ => none

theorem number_run_r (l : List Int) : runF Try.prog FD gamI 100 Try.f30 [.one (.words .u8 l)] [] =
    some ((Go.Abs.AV.tup ((Go.Abs.A0.one (Go.Abs.Part.fresh (0 : Nat) (54 : TypeId) Go.IntKind.u32 (Go.Num.W (List.length (Go.Num.W (24 : Nat) (Go.Num.Fld.m Go.Num.fld))) ((Go.Num.v16 (Go.Num.W (((List.length l) + (1 : Nat)) / (2 : Nat)) (Go.Num.be l))) % (Go.Num.v16 (Go.Num.W (24 : Nat) (Go.Num.Fld.m Go.Num.fld))))))) :: ((Go.Abs.A0.agg ((Go.Abs.Part.tag (Go.Num.T.el (Go.Num.readN (Go.Num.beB (48 : Nat) (Go.Num.v16 (Go.Num.W (List.length (Go.Num.W (24 : Nat) (Go.Num.Fld.m Go.Num.fld))) ((Go.Num.v16 (Go.Num.W (((List.length l) + (1 : Nat)) / (2 : Nat)) (Go.Num.be l))) % (Go.Num.v16 (Go.Num.W (24 : Nat) (Go.Num.Fld.m Go.Num.fld)))))))))) :: ([] : List (Part FD.τ)))) :: ([] : List (A0 FD.τ))))), [(Go.Num.InB l), ((List.length l) ≤ (140737488351232 : Nat)), (Go.Num.In16 (Go.Num.W (((List.length l) + (1 : Nat)) / (2 : Nat)) (Go.Num.be l))), (Go.Num.In16 (Go.Num.W (24 : Nat) (Go.Num.Fld.m Go.Num.fld))), ((0 : Int) < (Go.Num.v16 (Go.Num.W (24 : Nat) (Go.Num.Fld.m Go.Num.fld)))), ((List.length (Go.Num.W (((List.length l) + (1 : Nat)) / (2 : Nat)) (Go.Num.be l))) ≤ (1099511627776 : Nat)), ((List.length (Go.Num.W (24 : Nat) (Go.Num.Fld.m Go.Num.fld))) ≤ (1099511627775 : Nat)), (Go.Num.In16 (Go.Num.W (List.length (Go.Num.W (24 : Nat) (Go.Num.Fld.m Go.Num.fld))) ((Go.Num.v16 (Go.Num.W (((List.length l) + (1 : Nat)) / (2 : Nat)) (Go.Num.be l))) % (Go.Num.v16 (Go.Num.W (24 : Nat) (Go.Num.Fld.m Go.Num.fld)))))), ((0 : Int) ≤ (48 : Int)), ((48 : Int) ≤ (281474976710656 : Int)), (Go.Num.InB (Go.Num.beB (48 : Nat) (Go.Num.v16 (Go.Num.W (List.length (Go.Num.W (24 : Nat) (Go.Num.Fld.m Go.Num.fld))) ((Go.Num.v16 (Go.Num.W (((List.length l) + (1 : Nat)) / (2 : Nat)) (Go.Num.be l))) % (Go.Num.v16 (Go.Num.W (24 : Nat) (Go.Num.Fld.m Go.Num.fld)))))))), ((List.length (Go.Num.beB (48 : Nat) (Go.Num.v16 (Go.Num.W (List.length (Go.Num.W (24 : Nat) (Go.Num.Fld.m Go.Num.fld))) ((Go.Num.v16 (Go.Num.W (((List.length l) + (1 : Nat)) / (2 : Nat)) (Go.Num.be l))) % (Go.Num.v16 (Go.Num.W (24 : Nat) (Go.Num.Fld.m Go.Num.fld)))))))) ≤ (9223372036854775807 : Nat))]) := by kernel_rfl
theorem number_run (l : List Int)
    (h1 : (Go.Num.InB l))
    (h2 : ((List.length l) ≤ (140737488351232 : Nat)))
    (h3 : (Go.Num.In16 (Go.Num.W (((List.length l) + (1 : Nat)) / (2 : Nat)) (Go.Num.be l))))
    (h4 : (Go.Num.In16 (Go.Num.W (24 : Nat) (Go.Num.Fld.m Go.Num.fld))))
    (h5 : ((List.length (Go.Num.W (((List.length l) + (1 : Nat)) / (2 : Nat)) (Go.Num.be l))) ≤ (1099511627776 : Nat)))
    (h6 : (Go.Num.In16 (Go.Num.W (List.length (Go.Num.W (24 : Nat) (Go.Num.Fld.m Go.Num.fld))) ((Go.Num.v16 (Go.Num.W (((List.length l) + (1 : Nat)) / (2 : Nat)) (Go.Num.be l))) % (Go.Num.v16 (Go.Num.W (24 : Nat) (Go.Num.Fld.m Go.Num.fld)))))))
    (h7 : (Go.Num.InB (Go.Num.beB (48 : Nat) (Go.Num.v16 (Go.Num.W (List.length (Go.Num.W (24 : Nat) (Go.Num.Fld.m Go.Num.fld))) ((Go.Num.v16 (Go.Num.W (((List.length l) + (1 : Nat)) / (2 : Nat)) (Go.Num.be l))) % (Go.Num.v16 (Go.Num.W (24 : Nat) (Go.Num.Fld.m Go.Num.fld)))))))))
    (h8 : ((List.length (Go.Num.beB (48 : Nat) (Go.Num.v16 (Go.Num.W (List.length (Go.Num.W (24 : Nat) (Go.Num.Fld.m Go.Num.fld))) ((Go.Num.v16 (Go.Num.W (((List.length l) + (1 : Nat)) / (2 : Nat)) (Go.Num.be l))) % (Go.Num.v16 (Go.Num.W (24 : Nat) (Go.Num.Fld.m Go.Num.fld)))))))) ≤ (9223372036854775807 : Nat))) :
    ∃ ps, runF Try.prog FD gamI 100 Try.f30 [.one (.words .u8 l)] [] = some ((Go.Abs.AV.tup ((Go.Abs.A0.one (Go.Abs.Part.fresh (0 : Nat) (54 : TypeId) Go.IntKind.u32 (Go.Num.W (List.length (Go.Num.W (24 : Nat) (Go.Num.Fld.m Go.Num.fld))) ((Go.Num.v16 (Go.Num.W (((List.length l) + (1 : Nat)) / (2 : Nat)) (Go.Num.be l))) % (Go.Num.v16 (Go.Num.W (24 : Nat) (Go.Num.Fld.m Go.Num.fld))))))) :: ((Go.Abs.A0.agg ((Go.Abs.Part.tag (Go.Num.T.el (Go.Num.readN (Go.Num.beB (48 : Nat) (Go.Num.v16 (Go.Num.W (List.length (Go.Num.W (24 : Nat) (Go.Num.Fld.m Go.Num.fld))) ((Go.Num.v16 (Go.Num.W (((List.length l) + (1 : Nat)) / (2 : Nat)) (Go.Num.be l))) % (Go.Num.v16 (Go.Num.W (24 : Nat) (Go.Num.Fld.m Go.Num.fld)))))))))) :: ([] : List (Part FD.τ)))) :: ([] : List (A0 FD.τ))))), ps) ∧ AllQ ps := ⟨_, number_run_r l, AllP.all ⟨h1, h2, h3, h4, (show ((0 : Int) < (Go.Num.v16 (Go.Num.W (24 : Nat) (Go.Num.Fld.m Go.Num.fld)))) from by decide), h5, (show ((List.length (Go.Num.W (24 : Nat) (Go.Num.Fld.m Go.Num.fld))) ≤ (1099511627775 : Nat)) from by decide), h6, (show ((0 : Int) ≤ (48 : Int)) from by decide), (show ((48 : Int) ≤ (281474976710656 : Int)) from by decide), h7, h8⟩⟩

theorem m_H : fld.m < H ^ 24 := by decide

theorem number_ok : FnOK Try.prog FD 30 numberD := by
  refine fnOK_of gamI_ok mixed Try.func30 (enters_of Try.func30 (by kernel_rfl) rfl) ?_
  intro xs r ps h hps
  unfold numberD at h
  split at h
  · rename_i l
    simp only [Option.some.injEq, Prod.mk.injEq] at h
    obtain ⟨rfl, rfl⟩ := h
    have hb : InB l := hps _ (by simp)
    have hl : l.length ≤ 1000000 := hps _ (by simp)
    obtain ⟨ps, h1, h2⟩ := number_run l hb (by omega) (W_in16 _ _) (W_in16 _ _) (by rw [W_len]; omega) (W_in16 _ _) (beB_inB _ _) (by rw [beB_len]; omega)
    refine ⟨_, 100, _, _, _, fun w vs h => h, h1, h2, fun E v hv => ?_⟩
    have r1 := be_range hb
    have e1 : v16 (W ((l.length + 1) / 2) (be l)) = be l := by
      refine mod_self_pow ⟨r1.1, ?_⟩
      have h2 : (256 : Int) ^ l.length ≤ 256 ^ (2 * ((l.length + 1) / 2)) := pow_mono_256 (by omega)
      rw [Int.pow_mul] at h2
      have h3 : ((256 : Int) ^ 2) ^ ((l.length + 1) / 2) = H ^ ((l.length + 1) / 2) := rfl
      rw [h3] at h2
      omega
    have hm := fld.hm
    have e2 : v16 (W 24 fld.m) = fld.m := mod_self_pow ⟨by omega, m_H⟩
    have hr : 0 ≤ be l % fld.m ∧ be l % fld.m < fld.m := ⟨Int.emod_nonneg _ (by omega), Int.emod_lt_of_pos _ fld.pos⟩
    have e3 : v16 (W 24 (be l % fld.m)) = be l % fld.m := mod_self_pow ⟨hr.1, by have := m_H; omega⟩
    have e4 : be (beB 48 (be l % fld.m)) = be l % fld.m := by rw [be_beB]; exact Int.emod_eq_of_lt hr.1 (by have := m_256; omega)
    rw [W_len, e1, e2, e3] at hv
    refine tup2 (fun v hv => hv) (fun v hv => el_el fld ?_ hv) hv
    rw [readN, if_pos ⟨beB_len _ _, by rw [e4]; exact hr.2⟩, e4, Int.emod_emod]
  · cases h

end Go.Num

/- A field's laws: what they call. -/
import Derived.Test.YtbgcfmmkbocpoaaEl10
import Derived.Test.YtbgcfmmkbocpoaaRef4
namespace Go.Num
open Go.Abs Go.Proofs Go.Shelf

/-- As fnOK_of, what the callees do being told anew for each argument. -/
theorem fnOK_ofG {P : Program} {D : Dom} (hm : P.follows .mixedOrders = true) {f : FuncId} {fn : Func} {F : FnD D} (hf : P.funcs[f]? = some fn)
    (hc : ∀ args w, (callFunc f args).run P w = .ok (.enter f args) w)
    (h : ∀ xs r ps, F xs = some (r, ps) → AllQ ps → ∃ Γ, GamOK P D Γ ∧ ∃ xs' fuel ds r' qs, (∀ w vs, A0sRel D (cenv w) xs vs → A0sRel D (cenv w) xs' vs) ∧ runF P D Γ fuel fn xs' ds = some (r', qs) ∧ AllQ qs ∧
      ∀ E v, AVRel D E r' v → AVRel D E r v) : FnOK P D f F := by
  intro xs r ps hF hps w vs hx
  obtain ⟨Γ, hΓ, xs', fuel, ds, r', qs, h1, h2, h3, h4⟩ := h xs r ps hF hps
  refine ⟨_, hc _ w, ?_⟩
  refine (runF_calls hΓ hm hf h2 h3 (h1 w vs hx)).mono ?_
  rintro e w' ⟨v, he, ⟨ν, hd, hr⟩, hb⟩
  exact ⟨v, he, ⟨ν, hd, h4 _ _ hr⟩, hb⟩

/-! the inverse -/

/-- The power that is the inverse. -/
def invOf (a : Int) : Int := a ^ invE

def powD (L : List Int) (f : Int → Int) : FnD FD
  | [.agg p, .agg q] => match elOf p, allInts .u64 q with
    | some a, some l => if l = L then some (.v (.agg [.tag (.el (f a))]), []) else none
    | _, _ => none
  | _ => none

theorem lits_of {E : Env} : ∀ {l : List Int} {cs : List Value}, cs = l.map (Value.int .u64) → PartsRel FD E (litsP l) cs
  | [], _, h => h
  | a :: l, _, h => ⟨[.int .u64 a], l.map (Value.int .u64), h, rfl, lits_of (l := l) rfl⟩

theorem lits_rel {E : Env} {l : List Int} {ps : List (Part FD.τ)} {v : Value} (h : allInts .u64 ps = some l) (hv : A0Rel FD E (.agg ps) v) : A0Rel FD E (.agg (litsP l)) v := by
  obtain ⟨cs, e, hp⟩ := hv
  exact ⟨cs, e, lits_of (allInts_rel h hp)⟩

theorem el_pow1 {E : Env} {a : Int} {v : Value} (h : A0Rel FD E (.agg [.tag (.el a)]) v) : A0Rel FD E (.agg [.tag (.pow a 1)]) v := by
  refine pow_el.2 ?_
  rw [Int.pow_succ, Int.pow_zero, Int.one_mul]
  exact h

theorem powInv_ok : FnOK Try.prog FD 82 (powD invL invOf) := by
  refine fnOK_ofG mixed Try.func82 (enters_of Try.func82 (by kernel_rfl) rfl) ?_
  intro xs r ps h hps
  unfold powD at h
  split at h
  · rename_i p q
    split at h
    · rename_i a l ha hl
      split at h
      · rename_i hL
        simp only [Option.some.injEq, Prod.mk.injEq] at h
        obtain ⟨rfl, rfl⟩ := h
        subst hL
        refine ⟨gamP a, gamP_ok a, _, 600, _, _, _, fun w vs h => args2 (fun v hv => el_pow1 (elOf_rel ha hv)) (fun v hv => lits_rel hl hv) h, inv_pow a, ?_, fun E v hv => pow_el.1 hv⟩
        intro p hp
        rw [List.eq_of_mem_replicate hp]
      · cases h
    · cases h
  · cases h

def gam6 : Gam FD := (82, powD invL invOf) :: gam5
theorem gam6_ok : GamOK Try.prog FD gam6 := gam_cons powInv_ok gam5_ok

theorem inv_run_r (a : Int) : runF Try.prog FD gam6 100 Try.f71 [.agg [.tag (.el a)]] [] =
    some ((Go.Abs.AV.v (Go.Abs.A0.agg ((Go.Abs.Part.tag (Go.Num.T.el (Go.Num.invOf a))) :: ([] : List (Part FD.τ))))), []) := by kernel_rfl
theorem inv_run (a : Int) :
    ∃ ps, runF Try.prog FD gam6 100 Try.f71 [.agg [.tag (.el a)]] [] = some ((Go.Abs.AV.v (Go.Abs.A0.agg ((Go.Abs.Part.tag (Go.Num.T.el (Go.Num.invOf a))) :: ([] : List (Part FD.τ))))), ps) ∧ AllQ ps := ⟨_, inv_run_r a, allQ_nil⟩

theorem inv_ok : FnOK Try.prog FD 71 (el1D invOf) := by
  refine el1_ok gam6_ok Try.func71 (enters_of Try.func71 (by kernel_rfl) rfl) (fun a => ?_)
  obtain ⟨ps, h1, h2⟩ := inv_run a
  exact ⟨_, _, _, _, h1, h2, fld.enc_R _⟩

/-! the modulus in words of 16 bits -/

def modRefD : FnD FD
  | [] => some (.v (.one (.fresh 0 43 .u32 (W 24 fld.m))), [])
  | _ => none

def gamH : Gam FD := [(66, hexD FD)]
theorem gamH_ok : GamOK Try.prog FD gamH := gam_cons (hex_ok FD) gam_nil

theorem modref_run_r  : runF Try.prog FD gamH 100 Try.f47 [] [] =
    some ((Go.Abs.AV.v (Go.Abs.A0.one (Go.Abs.Part.fresh (0 : Nat) (43 : TypeId) Go.IntKind.u32 (Go.Num.W (((96 : Nat) + (3 : Nat)) / (4 : Nat)) (Go.Num.hexN ((49 : UInt8) :: ((97 : UInt8) :: ((48 : UInt8) :: ((49 : UInt8) :: ((49 : UInt8) :: ((49 : UInt8) :: ((101 : UInt8) :: ((97 : UInt8) :: ((51 : UInt8) :: ((57 : UInt8) :: ((55 : UInt8) :: ((102 : UInt8) :: ((101 : UInt8) :: ((54 : UInt8) :: ((57 : UInt8) :: ((97 : UInt8) :: ((52 : UInt8) :: ((98 : UInt8) :: ((49 : UInt8) :: ((98 : UInt8) :: ((97 : UInt8) :: ((55 : UInt8) :: ((98 : UInt8) :: ((54 : UInt8) :: ((52 : UInt8) :: ((51 : UInt8) :: ((52 : UInt8) :: ((98 : UInt8) :: ((97 : UInt8) :: ((99 : UInt8) :: ((100 : UInt8) :: ((55 : UInt8) :: ((54 : UInt8) :: ((52 : UInt8) :: ((55 : UInt8) :: ((55 : UInt8) :: ((52 : UInt8) :: ((98 : UInt8) :: ((56 : UInt8) :: ((52 : UInt8) :: ((102 : UInt8) :: ((51 : UInt8) :: ((56 : UInt8) :: ((53 : UInt8) :: ((49 : UInt8) :: ((50 : UInt8) :: ((98 : UInt8) :: ((102 : UInt8) :: ((54 : UInt8) :: ((55 : UInt8) :: ((51 : UInt8) :: ((48 : UInt8) :: ((100 : UInt8) :: ((50 : UInt8) :: ((97 : UInt8) :: ((48 : UInt8) :: ((102 : UInt8) :: ((54 : UInt8) :: ((98 : UInt8) :: ((48 : UInt8) :: ((102 : UInt8) :: ((54 : UInt8) :: ((50 : UInt8) :: ((52 : UInt8) :: ((49 : UInt8) :: ((101 : UInt8) :: ((97 : UInt8) :: ((98 : UInt8) :: ((102 : UInt8) :: ((102 : UInt8) :: ((102 : UInt8) :: ((101 : UInt8) :: ((98 : UInt8) :: ((49 : UInt8) :: ((53 : UInt8) :: ((51 : UInt8) :: ((102 : UInt8) :: ((102 : UInt8) :: ((102 : UInt8) :: ((102 : UInt8) :: ((98 : UInt8) :: ((57 : UInt8) :: ((102 : UInt8) :: ((101 : UInt8) :: ((102 : UInt8) :: ((102 : UInt8) :: ((102 : UInt8) :: ((102 : UInt8) :: ((102 : UInt8) :: ((102 : UInt8) :: ((102 : UInt8) :: ((102 : UInt8) :: ((97 : UInt8) :: ((97 : UInt8) :: ((97 : UInt8) :: ((98 : UInt8) :: ([] : List (UInt8))))))))))))))))))))))))))))))))))))))))))))))))))))))))))))))))))))))))))))))))))))))))))))))))))))))), [((List.all ((49 : UInt8) :: ((97 : UInt8) :: ((48 : UInt8) :: ((49 : UInt8) :: ((49 : UInt8) :: ((49 : UInt8) :: ((101 : UInt8) :: ((97 : UInt8) :: ((51 : UInt8) :: ((57 : UInt8) :: ((55 : UInt8) :: ((102 : UInt8) :: ((101 : UInt8) :: ((54 : UInt8) :: ((57 : UInt8) :: ((97 : UInt8) :: ((52 : UInt8) :: ((98 : UInt8) :: ((49 : UInt8) :: ((98 : UInt8) :: ((97 : UInt8) :: ((55 : UInt8) :: ((98 : UInt8) :: ((54 : UInt8) :: ((52 : UInt8) :: ((51 : UInt8) :: ((52 : UInt8) :: ((98 : UInt8) :: ((97 : UInt8) :: ((99 : UInt8) :: ((100 : UInt8) :: ((55 : UInt8) :: ((54 : UInt8) :: ((52 : UInt8) :: ((55 : UInt8) :: ((55 : UInt8) :: ((52 : UInt8) :: ((98 : UInt8) :: ((56 : UInt8) :: ((52 : UInt8) :: ((102 : UInt8) :: ((51 : UInt8) :: ((56 : UInt8) :: ((53 : UInt8) :: ((49 : UInt8) :: ((50 : UInt8) :: ((98 : UInt8) :: ((102 : UInt8) :: ((54 : UInt8) :: ((55 : UInt8) :: ((51 : UInt8) :: ((48 : UInt8) :: ((100 : UInt8) :: ((50 : UInt8) :: ((97 : UInt8) :: ((48 : UInt8) :: ((102 : UInt8) :: ((54 : UInt8) :: ((98 : UInt8) :: ((48 : UInt8) :: ((102 : UInt8) :: ((54 : UInt8) :: ((50 : UInt8) :: ((52 : UInt8) :: ((49 : UInt8) :: ((101 : UInt8) :: ((97 : UInt8) :: ((98 : UInt8) :: ((102 : UInt8) :: ((102 : UInt8) :: ((102 : UInt8) :: ((101 : UInt8) :: ((98 : UInt8) :: ((49 : UInt8) :: ((53 : UInt8) :: ((51 : UInt8) :: ((102 : UInt8) :: ((102 : UInt8) :: ((102 : UInt8) :: ((102 : UInt8) :: ((98 : UInt8) :: ((57 : UInt8) :: ((102 : UInt8) :: ((101 : UInt8) :: ((102 : UInt8) :: ((102 : UInt8) :: ((102 : UInt8) :: ((102 : UInt8) :: ((102 : UInt8) :: ((102 : UInt8) :: ((102 : UInt8) :: ((102 : UInt8) :: ((97 : UInt8) :: ((97 : UInt8) :: ((97 : UInt8) :: ((98 : UInt8) :: ([] : List (UInt8)))))))))))))))))))))))))))))))))))))))))))))))))))))))))))))))))))))))))))))))))))))))))))))))))) Go.Num.okDig) = Bool.true), ((96 : Nat) ≤ (1000000 : Nat))]) := by kernel_rfl
theorem modref_run  :
    ∃ ps, runF Try.prog FD gamH 100 Try.f47 [] [] = some ((Go.Abs.AV.v (Go.Abs.A0.one (Go.Abs.Part.fresh (0 : Nat) (43 : TypeId) Go.IntKind.u32 (Go.Num.W (((96 : Nat) + (3 : Nat)) / (4 : Nat)) (Go.Num.hexN ((49 : UInt8) :: ((97 : UInt8) :: ((48 : UInt8) :: ((49 : UInt8) :: ((49 : UInt8) :: ((49 : UInt8) :: ((101 : UInt8) :: ((97 : UInt8) :: ((51 : UInt8) :: ((57 : UInt8) :: ((55 : UInt8) :: ((102 : UInt8) :: ((101 : UInt8) :: ((54 : UInt8) :: ((57 : UInt8) :: ((97 : UInt8) :: ((52 : UInt8) :: ((98 : UInt8) :: ((49 : UInt8) :: ((98 : UInt8) :: ((97 : UInt8) :: ((55 : UInt8) :: ((98 : UInt8) :: ((54 : UInt8) :: ((52 : UInt8) :: ((51 : UInt8) :: ((52 : UInt8) :: ((98 : UInt8) :: ((97 : UInt8) :: ((99 : UInt8) :: ((100 : UInt8) :: ((55 : UInt8) :: ((54 : UInt8) :: ((52 : UInt8) :: ((55 : UInt8) :: ((55 : UInt8) :: ((52 : UInt8) :: ((98 : UInt8) :: ((56 : UInt8) :: ((52 : UInt8) :: ((102 : UInt8) :: ((51 : UInt8) :: ((56 : UInt8) :: ((53 : UInt8) :: ((49 : UInt8) :: ((50 : UInt8) :: ((98 : UInt8) :: ((102 : UInt8) :: ((54 : UInt8) :: ((55 : UInt8) :: ((51 : UInt8) :: ((48 : UInt8) :: ((100 : UInt8) :: ((50 : UInt8) :: ((97 : UInt8) :: ((48 : UInt8) :: ((102 : UInt8) :: ((54 : UInt8) :: ((98 : UInt8) :: ((48 : UInt8) :: ((102 : UInt8) :: ((54 : UInt8) :: ((50 : UInt8) :: ((52 : UInt8) :: ((49 : UInt8) :: ((101 : UInt8) :: ((97 : UInt8) :: ((98 : UInt8) :: ((102 : UInt8) :: ((102 : UInt8) :: ((102 : UInt8) :: ((101 : UInt8) :: ((98 : UInt8) :: ((49 : UInt8) :: ((53 : UInt8) :: ((51 : UInt8) :: ((102 : UInt8) :: ((102 : UInt8) :: ((102 : UInt8) :: ((102 : UInt8) :: ((98 : UInt8) :: ((57 : UInt8) :: ((102 : UInt8) :: ((101 : UInt8) :: ((102 : UInt8) :: ((102 : UInt8) :: ((102 : UInt8) :: ((102 : UInt8) :: ((102 : UInt8) :: ((102 : UInt8) :: ((102 : UInt8) :: ((102 : UInt8) :: ((97 : UInt8) :: ((97 : UInt8) :: ((97 : UInt8) :: ((98 : UInt8) :: ([] : List (UInt8))))))))))))))))))))))))))))))))))))))))))))))))))))))))))))))))))))))))))))))))))))))))))))))))))))))), ps) ∧ AllQ ps := ⟨_, modref_run_r , AllP.all ⟨(show ((List.all ((49 : UInt8) :: ((97 : UInt8) :: ((48 : UInt8) :: ((49 : UInt8) :: ((49 : UInt8) :: ((49 : UInt8) :: ((101 : UInt8) :: ((97 : UInt8) :: ((51 : UInt8) :: ((57 : UInt8) :: ((55 : UInt8) :: ((102 : UInt8) :: ((101 : UInt8) :: ((54 : UInt8) :: ((57 : UInt8) :: ((97 : UInt8) :: ((52 : UInt8) :: ((98 : UInt8) :: ((49 : UInt8) :: ((98 : UInt8) :: ((97 : UInt8) :: ((55 : UInt8) :: ((98 : UInt8) :: ((54 : UInt8) :: ((52 : UInt8) :: ((51 : UInt8) :: ((52 : UInt8) :: ((98 : UInt8) :: ((97 : UInt8) :: ((99 : UInt8) :: ((100 : UInt8) :: ((55 : UInt8) :: ((54 : UInt8) :: ((52 : UInt8) :: ((55 : UInt8) :: ((55 : UInt8) :: ((52 : UInt8) :: ((98 : UInt8) :: ((56 : UInt8) :: ((52 : UInt8) :: ((102 : UInt8) :: ((51 : UInt8) :: ((56 : UInt8) :: ((53 : UInt8) :: ((49 : UInt8) :: ((50 : UInt8) :: ((98 : UInt8) :: ((102 : UInt8) :: ((54 : UInt8) :: ((55 : UInt8) :: ((51 : UInt8) :: ((48 : UInt8) :: ((100 : UInt8) :: ((50 : UInt8) :: ((97 : UInt8) :: ((48 : UInt8) :: ((102 : UInt8) :: ((54 : UInt8) :: ((98 : UInt8) :: ((48 : UInt8) :: ((102 : UInt8) :: ((54 : UInt8) :: ((50 : UInt8) :: ((52 : UInt8) :: ((49 : UInt8) :: ((101 : UInt8) :: ((97 : UInt8) :: ((98 : UInt8) :: ((102 : UInt8) :: ((102 : UInt8) :: ((102 : UInt8) :: ((101 : UInt8) :: ((98 : UInt8) :: ((49 : UInt8) :: ((53 : UInt8) :: ((51 : UInt8) :: ((102 : UInt8) :: ((102 : UInt8) :: ((102 : UInt8) :: ((102 : UInt8) :: ((98 : UInt8) :: ((57 : UInt8) :: ((102 : UInt8) :: ((101 : UInt8) :: ((102 : UInt8) :: ((102 : UInt8) :: ((102 : UInt8) :: ((102 : UInt8) :: ((102 : UInt8) :: ((102 : UInt8) :: ((102 : UInt8) :: ((102 : UInt8) :: ((97 : UInt8) :: ((97 : UInt8) :: ((97 : UInt8) :: ((98 : UInt8) :: ([] : List (UInt8)))))))))))))))))))))))))))))))))))))))))))))))))))))))))))))))))))))))))))))))))))))))))))))))))) Go.Num.okDig) = Bool.true) from by decide), (show ((96 : Nat) ≤ (1000000 : Nat)) from by decide)⟩⟩

theorem modRef_ok : FnOK Try.prog FD 47 modRefD := by
  refine fnOK_of gamH_ok mixed Try.func47 (enters_of Try.func47 (by kernel_rfl) rfl) ?_
  intro xs r ps h hps
  unfold modRefD at h
  split at h
  · simp only [Option.some.injEq, Prod.mk.injEq] at h
    obtain ⟨rfl, rfl⟩ := h
    obtain ⟨ps, h1, h2⟩ := modref_run
    exact ⟨[], 100, [], _, _, fun w vs h => h, h1, h2, fun E v hv => by
      refine Eq.mp ?_ hv
      kernel_rfl⟩
  · cases h

/-! is, number -/

theorem m_256 : fld.m < 256 ^ 48 := by decide

def gamI : Gam FD := (30, bytesD) :: (63, bytD FD) :: (44, sameD FD) :: (61, numD FD) :: (47, modRefD) :: (60, modD FD) :: (62, readD) :: gam6
theorem gamI_ok : GamOK Try.prog FD gamI := gam_cons bytes_ok (gam_cons (byt_ok FD) (gam_cons (same_ok FD) (gam_cons (num_ok FD) (gam_cons modRef_ok (gam_cons (mod_ok FD) (gam_cons read_ok gam6_ok))))))

theorem m_H : fld.m < H ^ 24 := by decide
end Go.Num

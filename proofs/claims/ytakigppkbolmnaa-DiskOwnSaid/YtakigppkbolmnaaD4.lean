/- Disk: what Free answers. -/
import Derived.Test.YtakigppkbolmnaaD3
namespace Go.Num
open Go.Abs Go.Proofs Go.Shelf Go.RowKit Go.Maps

section
variable {P : Program} {D : Dom}

/-- Where memory only grows all stays. -/
theorem RR.grown {M : Mem} {w0 : World} {σ : Abs.Loc} {ν : Nat → Value} {S : St D.τ} {w w' : World} (hR : RR D M w0 σ ν S w) (hg : w.grownBy w' none) : RR D M w0 σ ν S w' := by
  refine hR.step ⟨fun _ h => h, fun _ _ => rfl, fun _ _ => rfl, rfl, rfl, ⟨rfl, rfl⟩, Loc.le_refl σ⟩ (fun _ => False) (fun _ h => h.elim) (fun b _ => Or.inl ⟨rfl, fun g h => ?_⟩) (fun _ _ _ h => h.elim) (fun _ _ h => h.elim) ?_ rfl (hR.zk_grown hg (fun g e => by cases e)) (fun _ _ h => h.elim) (fun b g _ h _ => hR.zd b g h) (fun g h => Or.inl h)
  · exact hg.block g (blk_lt hR h) (by simp)
  · exact hR.kept.trans ⟨hg.os, hg.tape, hg.output, hg.size, fun k hk _ => hg.block k hk (by simp)⟩

end

def safeOf (out : Option (Rec × Int)) (e : Rec × Ob) : Int := match out with
  | some (k, n) => if e.1 = k then n else obS e.2
  | none => obS e.2
def safeSum (out : Option (Rec × Int)) (es : List (Rec × Ob)) : Int := (es.map (safeOf out)).sum
def FreeOK (out : Option (Rec × Int)) (es : List (Rec × Ob)) (room : Int) : Prop :=
  (∀ e ∈ es, 0 ≤ safeOf out e) ∧ safeSum out es ≤ 1152921504606846976 ∧ -1099511627776 ≤ room ∧ room ≤ 1099511627776

theorem own_slice {E : Env} {w : World} {b : Nat} {e : TypeId} {p : Part DF.τ} (h : BoxRel0 DF E w b (.dyn e p)) : ∃ a m c, E.ν b = .slice a m c := by
  obtain ⟨n, xs, ⟨_, h1 | ⟨g, cap, cur, h1, _⟩⟩, _⟩ := h
  · exact ⟨_, _, _, h1.1⟩
  · exact ⟨_, _, _, h1⟩

/-- How many of a file's bytes are safe, by its value. -/
def valS : Value → Int
  | .agg cs => match cs.toList with
    | [_, .int _ n] => n
    | _ => 0
  | _ => 0

/-- What is out of the files, and where it lies. -/
def OutIs (S : St DF.τ) (out : Option (Rec × List (Part DF.τ))) (o : Option (Rec × Int)) : Prop :=
  (out = none ∧ o = none) ∨ ∃ k c lt n e p, out = some (k, [.own c, .int .i64 lt n]) ∧ o = some (k, n) ∧ S.box c = .dyn e p

theorem fam_files {M : Mem} {w0 : World} {σ : Abs.Loc} {ν : Nat → Value} {S : St DF.τ} {w : World} (hR : RR DF M w0 σ ν S w) {b : Nat} {es : List (Rec × Ob)} {out : Option (Rec × List (Part DF.τ))} {o : Option (Rec × Int)}
    (hb : S.box b = .fam 0 es out) (ho : OutIs S out o) : ∃ ens clock, w.heap[σ b]? = some (.map ens clock) ∧ Born ens clock ∧ ens.toList.map (·.key) = es.map (fun e => keyV false [.str] e.1) ∧ (∀ e ∈ es, keyOK [.str] e.1 = true) ∧ (es.map (·.1)).Nodup ∧
      (∀ e ∈ ens.toList, ∃ a m k, e.val = .agg #[.slice a m k, .int .i64 (valS e.val)]) ∧ ens.toList.map (fun e => valS e.val) = es.map (safeOf o) := by
  have hbox := hR.boxes b
  rw [hb] at hbox
  obtain ⟨fd, hfd, vs, Fs, hc, hnd, hlen, _, _, _, hent, _, _⟩ := hbox
  have hfd' : filesF = fd := Option.some.inj hfd
  subst hfd'
  obtain ⟨ens, clock, h1, h2, h3, h4, h5⟩ := hc
  have key : ∀ (i : Nat) k ob v, es[i]? = some (k, ob) → vs[i]? = some v → ∃ a m c, v = .agg #[.slice a m c, .int .i64 (safeOf o (k, ob))] := by
    intro i k ob v hi hv
    rcases hent i k ob v hi hv with ⟨ps, hout, hval⟩ | ⟨hno, σ', ν', _, _, hval, _, hbx, _⟩
    · rcases ho with ⟨h, _⟩ | ⟨k', c, lt, n, e, p, h, ho, hc⟩
      · rw [h] at hout; cases hout
      · rw [h] at hout
        cases hout
        obtain ⟨cs, rfl, c1, c2, rfl, ⟨_, _, rfl⟩, c3, c4, rfl, rfl, rfl⟩ := hval
        have hbc := hR.boxes c
        rw [hc] at hbc
        obtain ⟨a, m, q, hq⟩ := own_slice (E := S.env DF M w0 σ ν) hbc
        refine ⟨a, m, q, ?_⟩
        rw [hq, ho]
        show _ = Value.agg #[.slice a m q, .int .i64 (if k = k then n else obS ob)]
        rw [if_pos rfl]
        rfl
    · obtain ⟨cs, rfl, c1, c2, rfl, ⟨_, _, rfl⟩, c3, c4, rfl, rfl, rfl⟩ := hval
      have hb0 := (hbx 0 _ rfl).2.1
      obtain ⟨a, m, q, hq⟩ := own_slice (E := ienv σ' ν' 1) hb0
      refine ⟨a, m, q, ?_⟩
      have hq' : ν' 0 = .slice a m q := hq
      have hs : safeOf o (k, ob) = obS ob := by
        rcases ho with ⟨_, ho⟩ | ⟨k', c, lt, n, e, p, h, ho, hc⟩
        · rw [ho]; rfl
        · rw [ho]
          show (if k = k' then n else obS ob) = obS ob
          rw [if_neg]
          intro hk
          subst hk
          exact hno _ h
      rw [hs]
      show Value.agg [ν' 0, _].toArray = _
      rw [hq']
  have hlv : ens.toList.length = es.length := by
    have : (ens.toList.map (·.key)).length = ((es.map (·.1)).map (keyV filesF.kagg filesF.ksh)).length := by rw [h2]
    simpa using this
  refine ⟨ens, clock, h1, h4, by rw [h2, List.map_map]; rfl, fun e he => h5 e.1 (List.mem_map.2 ⟨e, he, rfl⟩), hnd, fun e he => ?_, ?_⟩
  · obtain ⟨i, hi, rfl⟩ := List.getElem_of_mem he
    have hie : i < es.length := by omega
    have hv : vs[i]? = some (ens.toList[i].val) := by
      rw [← h3, List.getElem?_map, List.getElem?_eq_getElem hi]
      rfl
    obtain ⟨a, m, c, hq⟩ := key i es[i].1 es[i].2 _ (by rw [List.getElem?_eq_getElem hie]) hv
    refine ⟨a, m, c, ?_⟩
    have : valS ens.toList[i].val = safeOf o (es[i].1, es[i].2) := by rw [hq]; rfl
    rw [this]
    exact hq
  · refine List.ext_getElem (by simpa using hlv) fun i hi1 hi2 => ?_
    simp only [List.length_map] at hi1 hi2
    have hv : vs[i]? = some (ens.toList[i].val) := by
      rw [← h3, List.getElem?_map, List.getElem?_eq_getElem hi1]
      rfl
    obtain ⟨a, m, c, hq⟩ := key i es[i].1 es[i].2 _ (by rw [List.getElem?_eq_getElem hi2]) hv
    rw [List.getElem_map, List.getElem_map, hq]
    rfl

/-! The contract -/

def frRd : List (BoxSt DF.τ) → List (A0 DF.τ) → Option (List (Rec × Ob) × Int × Option (Rec × Int))
  | [.fixed t ps, .fam k es none], [.one (.ref 0 0)] => match ps with
    | [.int .i64 _ room, .mapr 1, _, _, _] => bif Nat.beq t 66 && Nat.beq k 0 then some (es, room, none) else none
    | _ => none
  | [.fixed t ps, .fam k es (some (key, qs)), .dyn _ _], [.one (.ref 0 0)] => match ps, qs with
    | [.int .i64 _ room, .mapr 1, _, _, _], [.own 2, .int .i64 _ n] => bif Nat.beq t 66 && Nat.beq k 0 then some (es, room, some (key, n)) else none
    | _, _ => none
  | _, _ => none
def freeQ (bs : List (BoxSt DF.τ)) (xs : List (A0 DF.τ)) : Option (AV DF.τ × List (BoxSt DF.τ) × List Prop) :=
  match frRd bs xs with
  | some (es, room, o) => some (.v (.one (.int .i64 false (room - safeSum o es))), bs, [FreeOK o es room])
  | none => none

theorem beq_and {a b c d : Nat} (h : (Nat.beq a b && Nat.beq c d) = true) : a = b ∧ c = d := by
  simp only [Bool.and_eq_true] at h
  exact ⟨Nat.eq_of_beq_eq_true h.1, Nat.eq_of_beq_eq_true h.2⟩

theorem frRd_is {bs : List (BoxSt DF.τ)} {xs : List (A0 DF.τ)} {es : List (Rec × Ob)} {room : Int} {o : Option (Rec × Int)} (h : frRd bs xs = some (es, room, o)) :
    xs = [.one (.ref 0 0)] ∧ ∃ lt p3 p4 p5 out, (bst bs.length bs).box 0 = .fixed 66 [.int .i64 lt room, .mapr 1, p3, p4, p5] ∧ (bst bs.length bs).box 1 = .fam 0 es out ∧ OutIs (bst bs.length bs) out o := by
  unfold frRd at h
  split at h
  · rename_i t ps k es'
    split at h
    · rename_i lt r p3 p4 p5
      cases hb : (Nat.beq t 66 && Nat.beq k 0) <;> simp only [hb, cond_true, cond_false] at h
      · cases h
      · obtain ⟨rfl, rfl⟩ := beq_and hb
        cases h
        exact ⟨rfl, lt, p3, p4, p5, none, rfl, rfl, Or.inl ⟨rfl, rfl⟩⟩
    · cases h
  · rename_i t ps k es' key qs e p
    split at h
    · rename_i lt r p3 p4 p5 lt' n
      cases hb : (Nat.beq t 66 && Nat.beq k 0) <;> simp only [hb, cond_true, cond_false] at h
      · cases h
      · obtain ⟨rfl, rfl⟩ := beq_and hb
        cases h
        exact ⟨rfl, lt, p3, p4, p5, _, rfl, rfl, Or.inr ⟨_, _, _, _, _, _, rfl, rfl, rfl⟩⟩
    · cases h
  · cases h

theorem free_ok : OpOK Try.prog DF 17 freeQ := by
  intro bs xs r bs' ps hF hps w σ ν vs hR hx
  unfold freeQ at hF
  split at hF
  · rename_i es room o hrd
    simp only [Option.some.injEq, Prod.mk.injEq] at hF
    obtain ⟨rfl, rfl, rfl⟩ := hF
    obtain ⟨hf1, hf2, hf3, hf4⟩ : FreeOK o es room := hps _ (List.mem_cons_self ..)
    obtain ⟨rfl, lt, p3, p4, p5, out, hb0, hb1, ho⟩ := frRd_is hrd
    obtain ⟨v, us, rfl, ⟨_, _, hv⟩, rfl⟩ := hx
    simp only [List.cons.injEq, and_true] at hv
    subst hv
    obtain ⟨ens, clock, h1, h2, _, _, _, h5, h6⟩ := fam_files hR hb1 ho
    have hx0 := hR.boxes 0
    rw [hb0] at hx0
    obtain ⟨cs, hcs, c1, c2, hc, h7, c3, c4, hc2, h8, h9⟩ := hx0
    have hcs' : cs.toList = [] ++ ([.int .i64 room, .map (some (σ 1))] ++ c4) := by
      rw [hc, hc2, show c1 = _ from h7, show c3 = _ from h8.2]
      rfl
    have hcell := cells_at hcs hcs'
    refine ⟨_, _, enters_of Try.func17 (by kernel_rfl) rfl _ w, ?_⟩
    have hsum : (ens.toList.map fun e => valS e.val).sum = safeSum o es := by rw [h6]; rfl
    have hpos : ∀ e ∈ ens.toList, 0 ≤ valS e.val := by
      intro e he
      have hm : valS e.val ∈ es.map (safeOf o) := by rw [← h6]; exact List.mem_map.2 ⟨e, he, rfl⟩
      obtain ⟨x, hx, hxe⟩ := List.mem_map.1 hm
      rw [← hxe]
      exact hf1 x hx
    refine (free_walk (σ 1) (σ 0) room ens clock (fun e => valS e.val) w h1 h2 h5 hpos (by rw [hsum]; exact hf2) hf3 hf4 (hcell 0 _ rfl) (hcell 1 _ rfl)).mono ?_
    rintro en w' ⟨rfl, hg⟩
    refine ⟨_, rfl, σ, ν, RR.grown hR hg, ?_⟩
    rw [hsum]
    exact ⟨rfl, rfl⟩
  · cases hF

theorem free_nil  :
 ∃ ps, runO Try.prog DF [] 100 Try.f17 ([], [.one .nilp]) [] (.v (.one (.int .i64 true 0))) [] = some ps ∧ AllQ ps := ⟨_, by kernel_rfl, allQ_nil⟩

end Go.Num

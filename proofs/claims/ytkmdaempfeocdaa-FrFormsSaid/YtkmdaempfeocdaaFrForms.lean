/- FrForms: unlike numbers have unlike bytes. -/
import Derived.Test.YtkmdaempfeocdaaLawB
namespace Go.Num
open Go.Abs Go.Proofs Go.Shelf Go.Alg

theorem forms_longA_r (l m : List Int) : runF Try.prog FD gamZ 200 Try.f9 [.one (.words .u8 l), .one (.words .u8 m)] [.is true] =
    some ((Go.Abs.AV.v (Go.Abs.A0.one (Go.Abs.Part.bool Bool.true Bool.true))), [((decide ((((List.length l) : Nat) : Int) > (400 : Int))) = Bool.true)]) := by kernel_rfl
theorem forms_longA (l m : List Int)
    (h1 : ((decide ((((List.length l) : Nat) : Int) > (400 : Int))) = Bool.true)) :
    ∃ ps, runF Try.prog FD gamZ 200 Try.f9 [.one (.words .u8 l), .one (.words .u8 m)] [.is true] = some ((Go.Abs.AV.v (Go.Abs.A0.one (Go.Abs.Part.bool Bool.true Bool.true))), ps) ∧ AllQ ps := ⟨_, forms_longA_r l m, AllP.all h1⟩

theorem forms_longB_r (l m : List Int) : runF Try.prog FD gamZ 200 Try.f9 [.one (.words .u8 l), .one (.words .u8 m)] [.is false, .is true] =
    some ((Go.Abs.AV.v (Go.Abs.A0.one (Go.Abs.Part.bool Bool.true Bool.true))), [((decide ((((List.length l) : Nat) : Int) > (400 : Int))) = Bool.false), ((decide ((((List.length m) : Nat) : Int) > (400 : Int))) = Bool.true)]) := by kernel_rfl
theorem forms_longB (l m : List Int)
    (h1 : ((decide ((((List.length l) : Nat) : Int) > (400 : Int))) = Bool.false))
    (h2 : ((decide ((((List.length m) : Nat) : Int) > (400 : Int))) = Bool.true)) :
    ∃ ps, runF Try.prog FD gamZ 200 Try.f9 [.one (.words .u8 l), .one (.words .u8 m)] [.is false, .is true] = some ((Go.Abs.AV.v (Go.Abs.A0.one (Go.Abs.Part.bool Bool.true Bool.true))), ps) ∧ AllQ ps := ⟨_, forms_longB_r l m, AllP.all ⟨h1, h2⟩⟩

theorem forms_eq_r (l m : List Int) : runF Try.prog FD gamZ 200 Try.f9 [.one (.words .u8 l), .one (.words .u8 m)] [.is false, .is false, .is true, .is true, .is true, .is true, .is true, .is true] =
    some ((Go.Abs.AV.v (Go.Abs.A0.one (Go.Abs.Part.bool Bool.true Bool.true))), [((decide ((((List.length l) : Nat) : Int) > (400 : Int))) = Bool.false), ((decide ((((List.length m) : Nat) : Int) > (400 : Int))) = Bool.false), ((List.length l) ≤ (281474976710656 : Nat)), (Go.Num.InB l), ((List.length l) ≤ (9223372036854775807 : Nat)), ((List.length m) ≤ (281474976710656 : Nat)), (Go.Num.InB m), ((List.length m) ≤ (9223372036854775807 : Nat)), (Go.Num.InB (Go.Num.beB (32 : Nat) ((Go.Num.be l) % (Go.Num.Fld.m Go.Num.fld)))), ((List.length (Go.Num.beB (32 : Nat) ((Go.Num.be l) % (Go.Num.Fld.m Go.Num.fld)))) ≤ (9223372036854775807 : Nat)), (((Go.Num.readE (Go.Num.beB (32 : Nat) ((Go.Num.be l) % (Go.Num.Fld.m Go.Num.fld)))) == (0 : Int)) = Bool.true), ((decide (((Go.Num.readN (Go.Num.beB (32 : Nat) ((Go.Num.be l) % (Go.Num.Fld.m Go.Num.fld)))) % (Go.Num.Fld.m Go.Num.fld)) = ((Go.Num.be l) % (Go.Num.Fld.m Go.Num.fld)))) = Bool.true), (Go.Abs.EqT Go.Proofs.Try.prog (27 : Nat)), ((List.length (Go.Num.beB (32 : Nat) ((Go.Num.be l) % (Go.Num.Fld.m Go.Num.fld)))) = (32 : Nat)), ((List.length (Go.Num.beB (32 : Nat) ((Go.Num.be m) % (Go.Num.Fld.m Go.Num.fld)))) = (32 : Nat)), ((decide ((Go.Num.beB (32 : Nat) ((Go.Num.be l) % (Go.Num.Fld.m Go.Num.fld))) = (Go.Num.beB (32 : Nat) ((Go.Num.be m) % (Go.Num.Fld.m Go.Num.fld))))) = Bool.true), (Go.Abs.EqT Go.Proofs.Try.prog (52 : Nat)), ((List.length (Go.Num.beB (32 : Nat) ((Go.Num.be l) % (Go.Num.Fld.m Go.Num.fld)))) = (List.length (Go.Num.beB (32 : Nat) ((Go.Num.be m) % (Go.Num.Fld.m Go.Num.fld))))), ((List.length (Go.Num.beB (32 : Nat) ((Go.Num.be l) % (Go.Num.Fld.m Go.Num.fld)))) = (32 : Nat)), ((decide (((Go.Num.be l) % (Go.Num.Fld.m Go.Num.fld)) = ((Go.Num.be m) % (Go.Num.Fld.m Go.Num.fld)))) = Bool.true), (Go.Abs.EqT Go.Proofs.Try.prog (27 : Nat)), ((decide ((((0 : Int) - ((0 : Int) - (Go.Num.be l))) % (Go.Num.Fld.m Go.Num.fld)) = ((Go.Num.be l) % (Go.Num.Fld.m Go.Num.fld)))) = Bool.true), (Go.Abs.EqT Go.Proofs.Try.prog (27 : Nat)), ((decide ((((Go.Num.be l) - (Go.Num.be m)) % (Go.Num.Fld.m Go.Num.fld)) = (((0 : Int) - ((Go.Num.be m) - (Go.Num.be l))) % (Go.Num.Fld.m Go.Num.fld)))) = Bool.true), (Go.Abs.EqT Go.Proofs.Try.prog (27 : Nat))]) := by kernel_rfl
theorem forms_eq (l m : List Int)
    (h1 : ((decide ((((List.length l) : Nat) : Int) > (400 : Int))) = Bool.false))
    (h2 : ((decide ((((List.length m) : Nat) : Int) > (400 : Int))) = Bool.false))
    (h3 : ((List.length l) ≤ (281474976710656 : Nat)))
    (h4 : (Go.Num.InB l))
    (h5 : ((List.length l) ≤ (9223372036854775807 : Nat)))
    (h6 : ((List.length m) ≤ (281474976710656 : Nat)))
    (h7 : (Go.Num.InB m))
    (h8 : ((List.length m) ≤ (9223372036854775807 : Nat)))
    (h9 : (Go.Num.InB (Go.Num.beB (32 : Nat) ((Go.Num.be l) % (Go.Num.Fld.m Go.Num.fld)))))
    (h10 : ((List.length (Go.Num.beB (32 : Nat) ((Go.Num.be l) % (Go.Num.Fld.m Go.Num.fld)))) ≤ (9223372036854775807 : Nat)))
    (h11 : (((Go.Num.readE (Go.Num.beB (32 : Nat) ((Go.Num.be l) % (Go.Num.Fld.m Go.Num.fld)))) == (0 : Int)) = Bool.true))
    (h12 : ((decide (((Go.Num.readN (Go.Num.beB (32 : Nat) ((Go.Num.be l) % (Go.Num.Fld.m Go.Num.fld)))) % (Go.Num.Fld.m Go.Num.fld)) = ((Go.Num.be l) % (Go.Num.Fld.m Go.Num.fld)))) = Bool.true))
    (h13 : (Go.Abs.EqT Go.Proofs.Try.prog (27 : Nat)))
    (h14 : ((List.length (Go.Num.beB (32 : Nat) ((Go.Num.be l) % (Go.Num.Fld.m Go.Num.fld)))) = (32 : Nat)))
    (h15 : ((List.length (Go.Num.beB (32 : Nat) ((Go.Num.be m) % (Go.Num.Fld.m Go.Num.fld)))) = (32 : Nat)))
    (h16 : ((decide ((Go.Num.beB (32 : Nat) ((Go.Num.be l) % (Go.Num.Fld.m Go.Num.fld))) = (Go.Num.beB (32 : Nat) ((Go.Num.be m) % (Go.Num.Fld.m Go.Num.fld))))) = Bool.true))
    (h17 : (Go.Abs.EqT Go.Proofs.Try.prog (52 : Nat)))
    (h18 : ((List.length (Go.Num.beB (32 : Nat) ((Go.Num.be l) % (Go.Num.Fld.m Go.Num.fld)))) = (List.length (Go.Num.beB (32 : Nat) ((Go.Num.be m) % (Go.Num.Fld.m Go.Num.fld))))))
    (h19 : ((decide (((Go.Num.be l) % (Go.Num.Fld.m Go.Num.fld)) = ((Go.Num.be m) % (Go.Num.Fld.m Go.Num.fld)))) = Bool.true))
    (h20 : ((decide ((((0 : Int) - ((0 : Int) - (Go.Num.be l))) % (Go.Num.Fld.m Go.Num.fld)) = ((Go.Num.be l) % (Go.Num.Fld.m Go.Num.fld)))) = Bool.true))
    (h21 : ((decide ((((Go.Num.be l) - (Go.Num.be m)) % (Go.Num.Fld.m Go.Num.fld)) = (((0 : Int) - ((Go.Num.be m) - (Go.Num.be l))) % (Go.Num.Fld.m Go.Num.fld)))) = Bool.true)) :
    ∃ ps, runF Try.prog FD gamZ 200 Try.f9 [.one (.words .u8 l), .one (.words .u8 m)] [.is false, .is false, .is true, .is true, .is true, .is true, .is true, .is true] = some ((Go.Abs.AV.v (Go.Abs.A0.one (Go.Abs.Part.bool Bool.true Bool.true))), ps) ∧ AllQ ps := ⟨_, forms_eq_r l m, AllP.all ⟨h1, h2, h3, h4, h5, h6, h7, h8, h9, h10, h11, h12, h13, h14, h15, h16, h17, h18, h14, h19, h13, h20, h13, h21, h13⟩⟩

theorem forms_ne_r (l m : List Int) : runF Try.prog FD gamZ 200 Try.f9 [.one (.words .u8 l), .one (.words .u8 m)] [.is false, .is false, .is true, .is true, .is false, .is false, .is true, .is true] =
    some ((Go.Abs.AV.v (Go.Abs.A0.one (Go.Abs.Part.bool Bool.true Bool.true))), [((decide ((((List.length l) : Nat) : Int) > (400 : Int))) = Bool.false), ((decide ((((List.length m) : Nat) : Int) > (400 : Int))) = Bool.false), ((List.length l) ≤ (281474976710656 : Nat)), (Go.Num.InB l), ((List.length l) ≤ (9223372036854775807 : Nat)), ((List.length m) ≤ (281474976710656 : Nat)), (Go.Num.InB m), ((List.length m) ≤ (9223372036854775807 : Nat)), (Go.Num.InB (Go.Num.beB (32 : Nat) ((Go.Num.be l) % (Go.Num.Fld.m Go.Num.fld)))), ((List.length (Go.Num.beB (32 : Nat) ((Go.Num.be l) % (Go.Num.Fld.m Go.Num.fld)))) ≤ (9223372036854775807 : Nat)), (((Go.Num.readE (Go.Num.beB (32 : Nat) ((Go.Num.be l) % (Go.Num.Fld.m Go.Num.fld)))) == (0 : Int)) = Bool.true), ((decide (((Go.Num.readN (Go.Num.beB (32 : Nat) ((Go.Num.be l) % (Go.Num.Fld.m Go.Num.fld)))) % (Go.Num.Fld.m Go.Num.fld)) = ((Go.Num.be l) % (Go.Num.Fld.m Go.Num.fld)))) = Bool.true), (Go.Abs.EqT Go.Proofs.Try.prog (27 : Nat)), ((List.length (Go.Num.beB (32 : Nat) ((Go.Num.be l) % (Go.Num.Fld.m Go.Num.fld)))) = (32 : Nat)), ((List.length (Go.Num.beB (32 : Nat) ((Go.Num.be m) % (Go.Num.Fld.m Go.Num.fld)))) = (32 : Nat)), ((decide ((Go.Num.beB (32 : Nat) ((Go.Num.be l) % (Go.Num.Fld.m Go.Num.fld))) = (Go.Num.beB (32 : Nat) ((Go.Num.be m) % (Go.Num.Fld.m Go.Num.fld))))) = Bool.false), (Go.Abs.EqT Go.Proofs.Try.prog (52 : Nat)), ((List.length (Go.Num.beB (32 : Nat) ((Go.Num.be l) % (Go.Num.Fld.m Go.Num.fld)))) = (List.length (Go.Num.beB (32 : Nat) ((Go.Num.be m) % (Go.Num.Fld.m Go.Num.fld))))), ((List.length (Go.Num.beB (32 : Nat) ((Go.Num.be l) % (Go.Num.Fld.m Go.Num.fld)))) = (32 : Nat)), ((decide (((Go.Num.be l) % (Go.Num.Fld.m Go.Num.fld)) = ((Go.Num.be m) % (Go.Num.Fld.m Go.Num.fld)))) = Bool.false), (Go.Abs.EqT Go.Proofs.Try.prog (27 : Nat)), ((decide ((((0 : Int) - ((0 : Int) - (Go.Num.be l))) % (Go.Num.Fld.m Go.Num.fld)) = ((Go.Num.be l) % (Go.Num.Fld.m Go.Num.fld)))) = Bool.true), (Go.Abs.EqT Go.Proofs.Try.prog (27 : Nat)), ((decide ((((Go.Num.be l) - (Go.Num.be m)) % (Go.Num.Fld.m Go.Num.fld)) = (((0 : Int) - ((Go.Num.be m) - (Go.Num.be l))) % (Go.Num.Fld.m Go.Num.fld)))) = Bool.true), (Go.Abs.EqT Go.Proofs.Try.prog (27 : Nat))]) := by kernel_rfl
theorem forms_ne (l m : List Int)
    (h1 : ((decide ((((List.length l) : Nat) : Int) > (400 : Int))) = Bool.false))
    (h2 : ((decide ((((List.length m) : Nat) : Int) > (400 : Int))) = Bool.false))
    (h3 : ((List.length l) ≤ (281474976710656 : Nat)))
    (h4 : (Go.Num.InB l))
    (h5 : ((List.length l) ≤ (9223372036854775807 : Nat)))
    (h6 : ((List.length m) ≤ (281474976710656 : Nat)))
    (h7 : (Go.Num.InB m))
    (h8 : ((List.length m) ≤ (9223372036854775807 : Nat)))
    (h9 : (Go.Num.InB (Go.Num.beB (32 : Nat) ((Go.Num.be l) % (Go.Num.Fld.m Go.Num.fld)))))
    (h10 : ((List.length (Go.Num.beB (32 : Nat) ((Go.Num.be l) % (Go.Num.Fld.m Go.Num.fld)))) ≤ (9223372036854775807 : Nat)))
    (h11 : (((Go.Num.readE (Go.Num.beB (32 : Nat) ((Go.Num.be l) % (Go.Num.Fld.m Go.Num.fld)))) == (0 : Int)) = Bool.true))
    (h12 : ((decide (((Go.Num.readN (Go.Num.beB (32 : Nat) ((Go.Num.be l) % (Go.Num.Fld.m Go.Num.fld)))) % (Go.Num.Fld.m Go.Num.fld)) = ((Go.Num.be l) % (Go.Num.Fld.m Go.Num.fld)))) = Bool.true))
    (h13 : (Go.Abs.EqT Go.Proofs.Try.prog (27 : Nat)))
    (h14 : ((List.length (Go.Num.beB (32 : Nat) ((Go.Num.be l) % (Go.Num.Fld.m Go.Num.fld)))) = (32 : Nat)))
    (h15 : ((List.length (Go.Num.beB (32 : Nat) ((Go.Num.be m) % (Go.Num.Fld.m Go.Num.fld)))) = (32 : Nat)))
    (h16 : ((decide ((Go.Num.beB (32 : Nat) ((Go.Num.be l) % (Go.Num.Fld.m Go.Num.fld))) = (Go.Num.beB (32 : Nat) ((Go.Num.be m) % (Go.Num.Fld.m Go.Num.fld))))) = Bool.false))
    (h17 : (Go.Abs.EqT Go.Proofs.Try.prog (52 : Nat)))
    (h18 : ((List.length (Go.Num.beB (32 : Nat) ((Go.Num.be l) % (Go.Num.Fld.m Go.Num.fld)))) = (List.length (Go.Num.beB (32 : Nat) ((Go.Num.be m) % (Go.Num.Fld.m Go.Num.fld))))))
    (h19 : ((decide (((Go.Num.be l) % (Go.Num.Fld.m Go.Num.fld)) = ((Go.Num.be m) % (Go.Num.Fld.m Go.Num.fld)))) = Bool.false))
    (h20 : ((decide ((((0 : Int) - ((0 : Int) - (Go.Num.be l))) % (Go.Num.Fld.m Go.Num.fld)) = ((Go.Num.be l) % (Go.Num.Fld.m Go.Num.fld)))) = Bool.true))
    (h21 : ((decide ((((Go.Num.be l) - (Go.Num.be m)) % (Go.Num.Fld.m Go.Num.fld)) = (((0 : Int) - ((Go.Num.be m) - (Go.Num.be l))) % (Go.Num.Fld.m Go.Num.fld)))) = Bool.true)) :
    ∃ ps, runF Try.prog FD gamZ 200 Try.f9 [.one (.words .u8 l), .one (.words .u8 m)] [.is false, .is false, .is true, .is true, .is false, .is false, .is true, .is true] = some ((Go.Abs.AV.v (Go.Abs.A0.one (Go.Abs.Part.bool Bool.true Bool.true))), ps) ∧ AllQ ps := ⟨_, forms_ne_r l m, AllP.all ⟨h1, h2, h3, h4, h5, h6, h7, h8, h9, h10, h11, h12, h13, h14, h15, h16, h17, h18, h14, h19, h13, h20, h13, h21, h13⟩⟩

theorem be_bytes (x : Int) : be (beB 32 (x % fld.m)) = x % fld.m := by
  rw [be_beB]
  exact pX x

theorem bytes_same (x y : Int) : beB 32 (x % fld.m) = beB 32 (y % fld.m) ↔ x % fld.m = y % fld.m := by rw [beB_inj, pX, pX]

theorem readE_bytes (x : Int) : readE (beB 32 (x % fld.m)) = 0 := by rw [readE, if_pos (beB_len _ _), be_bytes, if_pos (mod_m x).2]
theorem readN_bytes (x : Int) : readN (beB 32 (x % fld.m)) = x % fld.m := by rw [readN, be_bytes, if_pos ⟨beB_len _ _, (mod_m x).2⟩]

theorem lawForms {l m : List Int} (hb : InB l) (_hl : l.length ≤ 140737488351232) (hc : InB m) (_hm : m.length ≤ 140737488351232) : LawOK Try.f9 [.one (.words .u8 l), .one (.words .u8 m)] := by
  have yes : ∀ {x y : Int}, x = y → decide (x % fld.m = y % fld.m) = true := fun h => by rw [h, decide_eq_true rfl]
  by_cases h : (l.length : Int) > 400
  · obtain ⟨ps, h1, h2⟩ := forms_longA l m (decide_eq_true h)
    exact ⟨gamZ, gamZ_ok, _, ps, h1, h2⟩
  by_cases k : (m.length : Int) > 400
  · obtain ⟨ps, h1, h2⟩ := forms_longB l m (decide_eq_false h) (decide_eq_true k)
    exact ⟨gamZ, gamZ_ok, _, ps, h1, h2⟩
  have e0 : (readE (beB 32 (be l % fld.m)) == 0) = true := by rw [readE_bytes]; rfl
  have e1 : decide (readN (beB 32 (be l % fld.m)) % fld.m = be l % fld.m) = true := decide_eq_true (by rw [readN_bytes, Int.emod_emod])
  by_cases hs : be l % fld.m = be m % fld.m
  · obtain ⟨ps, h1, h2⟩ := forms_eq l m (decide_eq_false h) (decide_eq_false k) (by omega) hb (by omega) (by omega) hc (by omega) (beB_inB _ _) (by rw [beB_len]; omega) e0 e1 el_eqT (beB_len _ _) (beB_len _ _)
      (decide_eq_true ((bytes_same _ _).2 hs)) bytes_eqT (by rw [beB_len, beB_len]) (decide_eq_true hs) (yes (by omega)) (yes (by omega))
    exact ⟨gamZ, gamZ_ok, _, ps, h1, h2⟩
  · obtain ⟨ps, h1, h2⟩ := forms_ne l m (decide_eq_false h) (decide_eq_false k) (by omega) hb (by omega) (by omega) hc (by omega) (beB_inB _ _) (by rw [beB_len]; omega) e0 e1 el_eqT (beB_len _ _) (beB_len _ _)
      (decide_eq_false fun e => hs ((bytes_same _ _).1 e)) bytes_eqT (by rw [beB_len, beB_len]) (decide_eq_false hs) (yes (by omega)) (yes (by omega))
    exact ⟨gamZ, gamZ_ok, _, ps, h1, h2⟩

end Go.Num

/- The field's modulus is prime. Plain mathematics. -/
import Derived.Test.YtbgcfmmkbocpoaaPrime
namespace Go.Alg

theorem pr0 : Pr 421987 := prime_trial (k := 648) (by kernel_rfl)
theorem pr1 : Pr 755057 := prime_trial (k := 867) (by kernel_rfl)
theorem pr2 : Pr 13090036741 := prime_pock (B := 114412) (k := 35) (c := [(421987, 1, 2)]) (by
  intro x hx
  rw [List.mem_singleton.1 hx]
  exact pr0) (by kernel_rfl)
theorem pr3 : Pr 3819663927398918131021 := prime_pock (B := 61803429739) (k := 73) (c := [(13090036741, 1, 2), (755057, 1, 2)]) (by
  intro x hx
  simp only [List.mem_cons, List.not_mem_nil, or_false] at hx
  rcases hx with rfl | rfl
  · exact pr2
  · exact pr1) (by kernel_rfl)
theorem pr4 : Pr 1125266252156850182658904441386709967 := prime_pock (B := 1060785676824894815) (k := 121) (c := [(3819663927398918131021, 1, 2)]) (by
  intro x hx
  rw [List.mem_singleton.1 hx]
  exact pr3) (by kernel_rfl)
theorem pr5 : Pr 15778400344354997994418419698270088123916926905054652752758194827714659 := prime_pock (B := 125612102698565626687882688677703243) (k := 235) (c := [(1125266252156850182658904441386709967, 1, 2)]) (by
  intro x hx
  rw [List.mem_singleton.1 hx]
  exact pr4) (by kernel_rfl)
theorem fieldPr : Pr 4002409555221667393417789825735904156556882819939007885332058136124031650490837864442687629129015664037894272559787 := prime_pock (B := 2000602298114662116969297419218505594602560907726553276487) (k := 382) (c := [(15778400344354997994418419698270088123916926905054652752758194827714659, 1, 2)]) (by
  intro x hx
  rw [List.mem_singleton.1 hx]
  exact pr5) (by kernel_rfl)

end Go.Alg

/- Layer 3: Parse at any text. -/
import Derived.Test.YtdbghnfmhgjkaaaDoorVcB
import Derived.Test.YtdbghnfmhgjkaaaDoorVcC
import Derived.Test.YtdbghnfmhgjkaaaDoorVcD
namespace Go.Proofs.YtdbghnfmhgjkaaaDoor
open Go.RowKit Go.Dio
set_option linter.unusedVariables false
set_option linter.unusedSimpArgs false
theorem VParse_any (s : ByteArray) (w : World) (hs : s.size ≤ 281474976710656) (hp : PowTab w) (he : ErrsAt w) :
    Calls Tryd.prog 54 #[.string s] w fun e w' => e = .returned (.tuple #[vv (pParse s.toList).1.1 (pParse s.toList).1.2.1 (pParse s.toList).1.2.2, .bool (pParse s.toList).2]) ∧ Below w.heap.size w w' := by
  by_cases hA : s.toList = [] ∨ s.toList = [110, 111, 110, 101] ∨ s.toList = [121, 101, 115] ∨ s.toList = [110, 111]
  · exact VParse_word s w hs hp he hA
  · simp only [not_or] at hA
    obtain ⟨h0, h1, h2, h3⟩ := hA
    have hlen : s.toList.length = s.size := by rw [toList_eq, Array.length_toList]; rfl
    have hpos : 0 < s.size := by
      rcases hx : s.toList with _ | ⟨a, l⟩
      · exact absurd hx h0
      · rw [hx] at hlen; simp at hlen; omega
    have b1 : (s.toList == [110, 111, 110, 101]) = false := by simpa using h1
    have b2 : (s.toList == [121, 101, 115]) = false := by simpa using h2
    have b3 : (s.toList == [110, 111]) = false := by simpa using h3
    by_cases c4 : 2 ≤ s.size ∧ s[0].toNat = 34
    · exact VParse_text s w hs hp he b1 b2 b3 h0 hpos c4
    · exact VParse_num s w hs hp he b1 b2 b3 h0 hpos c4
end Go.Proofs.YtdbghnfmhgjkaaaDoor

/- The law SerialRuns, whole. -/
import Derived.Test.YtfkihagcgjombaaT15e
import Derived.Test.YtfkihagcgjombaaT15r
set_option maxRecDepth 100000
namespace Go.Proofs.Ytfkihagcgjombaa
open Go.RowKit
theorem law15_good (l : List Int) (rs : List (Int × Int)) (n0 n1 : Int) : Good Try.prog 4 [.sl .sh 1 (l.map i1), .sl .sh 2 (rs.map rr), .agg [.int .i64 n0, .int .i64 n1]] (.bool true) := by
  by_cases h : l.length ≤ 40
  · obtain ⟨s, hs⟩ : ∃ s, s = S (fews l) := ⟨_, rfl⟩
    exact serialRuns_good l rs n0 n1 s hs (rights_good (fews l) s (by rw [List.length_map]; omega) hs) h
  · exact serialRuns_long l rs n0 n1 h
end Go.Proofs.Ytfkihagcgjombaa

/- The contracts of check's Sum, Seal and Open, for every text. -/
import Derived.Test.YtemecgbiidjbmaaSum
import Derived.Deep.RegionHeld3
import Derived.Deep.DrawnRows
namespace Go.Proofs.Ytemecgbiidjbmaa
open Go.RowKit

theorem sum_any (l : List UInt8) (hs : l.length ≤ maxLen) (w : World) :
    Calls Try.prog 9 #[.string (str l)] w fun e w' => e = .returned (.int .u32 (more 1 l)) ∧ Below w.heap.size w w' := by
  go_enter Try.func9, Try.ntmps9
  go_wp2_with (go_at_call 8; refine (more_any 1 (by omega) (by omega) l hs _).mono ?_; rintro e w1 ⟨rfl, hb1⟩)
  go_ret
  exact ⟨rfl, hb1⟩

set_option maxHeartbeats 400000 in
theorem seal_any (l : List UInt8) (hs : l.length ≤ 1000000) (w : World) :
    Calls Try.prog 7 #[.string (str l)] w fun e w' => e = .returned (.string (str (l ++ numB (more 1 l).toNat 4))) ∧ Below w.heap.size w w' := by
  have hm := more_bd 1 l
  have hn := numB_length (more 1 l).toNat 4
  have hn' : (numB (more 1 l).toNat 4).length ≤ 4 := by omega
  clear hn
  go_enter Try.func7, Try.ntmps7
  go_wp2_with (first
    | (go_at_call 9; refine (sum_any l (by simp only [maxLen]; omega) _).mono ?_; rintro e w1 ⟨rfl, hb1⟩)
    | (go_at_call 10; refine (num_int _ (by omega) (by omega) 4 4 rfl (by omega) _).mono ?_; rintro e w2 ⟨rfl, hb2⟩))
  go_ret
  exact ⟨rfl, below_step hb1 hb2⟩

/-- what was sealed: the body and the number of the error -/
def opened (l : List UInt8) : List UInt8 × Int :=
  if l.length < 4 then ([], 2)
  else if numB (more 1 (l.take (l.length - 4))).toNat 4 = l.drop (l.length - 4) then (l.take (l.length - 4), 0) else ([], 5)

set_option maxHeartbeats 400000 in
theorem open_any (l : List UInt8) (hs : l.length ≤ 1000000) (w : World) :
    Calls Try.prog 6 #[.string (str l)] w fun e w' => e = .returned (.tuple #[.string (str (opened l).1), .int .i64 (opened l).2]) ∧ Below w.heap.size w w' := by
  by_cases h4 : l.length < 4
  · have hfin : opened l = ([], 2) := by unfold opened; rw [if_pos h4]
    rw [hfin]
    clear hfin
    go_enter Try.func6, Try.ntmps6
    go_wp2_with fail
    go_ret2
    exact ⟨rfl, Below.refl _ _⟩
  · have hm := more_bd 1 (l.take (l.length - 4))
    have h4' : (4 : Int) ≤ (l.length : Int) := by omega
    have w1 : IntKind.i64.wrap ((l.length : Int) - 4) = (l.length : Int) - 4 := IntWalk.i64_in _ (by omega)
    have w2 : (0 : Int) ≤ (l.length : Int) - 4 := by omega
    have w3 : (l.length : Int) - 4 ≤ (l.length : Int) := by omega
    have w4 : ((l.length : Int) - 4).toNat = l.length - 4 := by omega
    have w5 : IntKind.u64.wrap (more 1 (l.take (l.length - 4))) = more 1 (l.take (l.length - 4)) := IntWalk.u64_in _ (by omega)
    have Hfin : Hid (opened l = if numB (more 1 (l.take (l.length - 4))).toNat 4 = l.drop (l.length - 4) then (l.take (l.length - 4), 0) else ([], 5)) := by
      show opened l = _
      unfold opened; rw [if_neg h4]
    by_cases hq : numB (more 1 (l.take (l.length - 4))).toNat 4 = l.drop (l.length - 4)
    · have hq' : (numB (more 1 (l.take (l.length - 4))).toNat 4 == l.drop (l.length - 4)) = true := by simp [hq]
      have Hq := Lib.hid hq
      clear hq
      rw [Hfin.out, if_pos Hq.out]
      go_enter Try.func6, Try.ntmps6
      go_wp2_with fail
      go_region_held3 (fun _ => True) (trivial) (first
        | (go_at_call 9; refine (sum_any (l.take (l.length - 4)) (by simp only [maxLen, List.length_take]; omega) _).mono ?_; rintro e w1 ⟨rfl, hb1⟩)
        | (go_at_call 10; refine (num_int _ (by omega) (by omega) 4 4 rfl (by omega) _).mono ?_; rintro e w2 ⟨rfl, hb2⟩))
      go_wp2
      go_ret2
      exact ⟨rfl, below_step ((Below.refl _ _).drew.trans hb1) hb2⟩
    · have hq' : (numB (more 1 (l.take (l.length - 4))).toNat 4 == l.drop (l.length - 4)) = false := by simp [hq]
      have Hq := Lib.hid hq
      clear hq
      rw [Hfin.out, if_neg Hq.out]
      go_enter Try.func6, Try.ntmps6
      go_wp2_with fail
      go_region_held3 (fun _ => True) (trivial) (first
        | (go_at_call 9; refine (sum_any (l.take (l.length - 4)) (by simp only [maxLen, List.length_take]; omega) _).mono ?_; rintro e w1 ⟨rfl, hb1⟩)
        | (go_at_call 10; refine (num_int _ (by omega) (by omega) 4 4 rfl (by omega) _).mono ?_; rintro e w2 ⟨rfl, hb2⟩))
      go_wp2
      go_ret2
      exact ⟨rfl, below_step ((Below.refl _ _).drew.trans hb1) hb2⟩
end Go.Proofs.Ytemecgbiidjbmaa

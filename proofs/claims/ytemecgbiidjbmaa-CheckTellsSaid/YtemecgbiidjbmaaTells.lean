/- The law CheckTells, walked: of a short text one byte that is another one, or two unlike ones exchanged, are told. -/
import Derived.Test.YtemecgbiidjbmaaCheck
import Derived.Test.YtemecgbiidjbmaaTellsP
import Derived.Test.YtemecgbiidjbmaaBytes
import Derived.Deep.RegionHeld3
import Derived.Deep.DrawnRows
namespace Go.Proofs.Ytemecgbiidjbmaa
open Go.RowKit

theorem seal_is (l : List UInt8) (hs : l.length ≤ 1000000) (w : World) :
    Calls Try.prog 7 #[.string (str l)] w fun e w' => e = .returned (.string (str (sealed l))) ∧ Below w.heap.size w w' := seal_any l hs w

theorem at_of (x : Int) (m : Nat) (h1 : 1 ≤ m) (h2 : m ≤ 1000000) : ∃ p : Nat, wrap64 ((IntKind.u64.wrap x).tmod (m : Int)) = p ∧ p < m := by
  have h0 : 0 ≤ IntKind.u64.wrap x := by
    simp only [IntKind.wrap, IntKind.signed, IntKind.bits]
    simp
    omega
  have h3 : 0 ≤ (IntKind.u64.wrap x) % (m : Int) := Int.emod_nonneg _ (by omega)
  have h4 : (IntKind.u64.wrap x) % (m : Int) < (m : Int) := Int.emod_lt_of_pos _ (by omega)
  rw [Int.tmod_eq_emod_of_nonneg h0, IntWalk.wrap64_in _ (by omega)]
  exact ⟨((IntKind.u64.wrap x) % (m : Int)).toNat, by omega, by omega⟩

/-- what Open says of the text with another byte -/
theorem set_says (l : List UInt8) (p : Nat) (h : p < l.length) (b : UInt8) (hp2 : p < (sealed l).length) : ∃ (o : List UInt8) (n : Int) (q : Bool), opened ((sealed l).set p b) = (o, n) ∧ (n == 0) = q ∧ ((b.toNat : Int) == (((sealed l)[p]'hp2).toNat : Int)) = q := by
  rw [sealed_get l p h hp2, opened_set l p h b]
  by_cases hq : b = l[p]
  · rw [if_pos hq, hq]; exact ⟨_, _, true, rfl, rfl, by simp⟩
  · rw [if_neg hq]
    refine ⟨_, _, false, rfl, rfl, ?_⟩
    rw [beq_eq_false_iff_ne]
    intro hn
    exact hq (UInt8.toNat_inj.1 (by omega))
/-- what Open says of the text with two bytes exchanged -/
theorem swap_says (l : List UInt8) (p : Nat) (h : p + 1 < l.length) (hp2 : p < (sealed l).length) (hq2 : p + 1 < (sealed l).length) : ∃ (o : List UInt8) (n : Int) (q : Bool),
    opened (((sealed l).set p (sealed l)[p + 1]).set (p + 1) (sealed l)[p]) = (o, n) ∧ (n == 0) = q ∧ ((((sealed l)[p]'hp2).toNat : Int) == (((sealed l)[p + 1]'hq2).toNat : Int)) = q := by
  rw [sealed_get l p (by omega) hp2, sealed_get l (p + 1) h hq2, opened_swap l p h]
  by_cases hq : l[p] = l[p + 1]
  · rw [if_pos hq]; exact ⟨_, _, true, rfl, rfl, by simp [hq]⟩
  · rw [if_neg hq]
    refine ⟨_, _, false, rfl, rfl, ?_⟩
    rw [beq_eq_false_iff_ne]
    intro hn
    exact hq (UInt8.toNat_inj.1 (by omega))

set_option maxHeartbeats 1600000 in
theorem tells_walk (l : List UInt8) (hl : l.length ≤ maxLen) (x : Int) (b : UInt8) (w : World) :
    Calls Try.prog 4 #[.string (str l), .int .i64 x, .int .u8 (b.toNat : Int)] w fun e w' => e = .returned (.bool true) ∧ Below w.heap.size w w' := by
  unfold maxLen at hl
  have HB := Lib.hid (Below.refl w.heap.size w)
  by_cases h1 : l.length < 2
  · go_enter Try.func4, Try.ntmps4
    go_wp2_with (go_at_call 5; refine (awake_any _).mono ?_; rintro e w1 ⟨rfl, hb1⟩; replace HB := Lib.hid (below_step HB.out hb1); clear hb1)
    go_ret
    exact ⟨rfl, HB.out⟩
  by_cases h2 : 300 < l.length
  · go_enter Try.func4, Try.ntmps4
    go_wp2_with (go_at_call 5; refine (awake_any _).mono ?_; rintro e w1 ⟨rfl, hb1⟩; replace HB := Lib.hid (below_step HB.out hb1); clear hb1)
    go_ret
    exact ⟨rfl, HB.out⟩
  obtain ⟨p, hp, hpl⟩ := at_of x (l.length - 1) (by omega) (by omega)
  have e1 : ((l.length - 1 : Nat) : Int) = (l.length : Int) - 1 := by omega
  rw [e1] at hp
  clear e1
  have Hp := Lib.hid hp
  clear hp
  go_enter Try.func4, Try.ntmps4
  go_wp2_with fail
  rw [Hp.out]
  clear Hp
  refine (seal_is l (by omega) _).mono ?_
  rintro e w1 ⟨rfl, hb1⟩
  replace HB := Lib.hid (below_step HB.out hb1)
  clear hb1
  have hT := sealed_length l
  have hx := run_to_bytes (sealed l)
  have c1 := bytesW_cell w1 (sealed l) p (by omega)
  have f1 := bytesW_free w1 (sealed l) p (by omega)
  have hb1 := bytesW_below w1 (sealed l)
  have hs1 := ((bytesW_cells w1 (sealed l)).store p b (by omega)).text (n := l.length + 4) (cap := bytesC w1 (sealed l)) (by rw [List.length_set, hT])
  obtain ⟨o1, n1, b1, e3, e4, e5⟩ := set_says l p (by omega) b (by omega)
  obtain ⟨o2, n2, b2, g3, g4, g5⟩ := swap_says l p (by omega) (by omega) (by omega)
  obtain ⟨tp, htp⟩ : ∃ u, (sealed l)[p]'(by omega) = u := ⟨_, rfl⟩
  obtain ⟨tq, htq⟩ : ∃ u, (sealed l)[p + 1]'(by omega) = u := ⟨_, rfl⟩
  rw [htp] at c1 e5 g3 g5
  rw [htq] at g3 g5
  have G3 := Lib.hid g3
  have G4 := Lib.hid g4
  have G5 := Lib.hid g5
  clear g3 g4 g5
  replace HB := Lib.hid ((below_step HB.out hb1).setCell (p := ⟨w1.heap.size, p, none⟩) (by exact HB.out.size) (.int .u8 (b.toNat : Int)))
  clear hb1
  go_wp2_with (go_at_call 6; refine (open_any _ (by rw [List.length_set, hT]; omega) _).mono ?_; rintro e w2 ⟨rfl, hb2⟩)
  replace HB := Lib.hid (below_step HB.out hb2)
  clear hb2 hs1 c1 f1 e3 e4 e5
  have c1 := bytesW_cell w2 (sealed l) p (by omega)
  have f1 := bytesW_free w2 (sealed l) p (by omega)
  have c2 := bytesW_cell w2 (sealed l) (p + 1) (by omega)
  have f2 := bytesW_free w2 (sealed l) (p + 1) (by omega)
  rw [htp] at c1
  rw [htq] at c2
  have hb2 := bytesW_below w2 (sealed l)
  have i1 : (p : Int) + 1 < (l.length : Int) + 4 := by omega
  have i2 : (0 : Int) ≤ (p : Int) + 1 := by omega
  have i3 : ((p : Int) + 1).toNat = p + 1 := by omega
  go_region
  have hs2 := ((((bytesW_cells w2 (sealed l)).store p tq (by omega)).store (p + 1) tp (by rw [List.length_set]; omega)).drew).text (n := l.length + 4) (cap := bytesC w2 (sealed l)) (by rw [List.length_set, List.length_set, hT])
  replace HB := Lib.hid ((((below_step HB.out hb2).setCell (p := ⟨w2.heap.size, p, none⟩) (by exact HB.out.size) (.int .u8 (tq.toNat : Int))).setCell (p := ⟨w2.heap.size, p + 1, none⟩) (by exact HB.out.size) (.int .u8 (tp.toNat : Int))).drew)
  have g3 := G3.out
  have g4 := G4.out
  have g5 := G5.out
  clear G3 G4 G5 hb2 c1 c2 f1 f2
  go_wp2_with (go_at_call 6; refine (open_any _ (by rw [List.length_set, List.length_set, hT]; omega) _).mono ?_; rintro e w3 ⟨rfl, hb3⟩)
  replace HB := Lib.hid (below_step HB.out hb3)
  clear hb3 hs2 g3
  have i4 : IntKind.i64.wrap ((p : Int) + 1) = (p : Int) + 1 := IntWalk.i64_in _ (by omega)
  have i5 : (0 : Int) ≤ (p : Int) := by omega
  have i6 : (p : Int) < (l.length : Int) + 4 := by omega
  go_region_held3 (fun _ => True) (trivial) (first
    | (go_at_call 5; refine (awake_any _).mono ?_; rintro e w4 ⟨rfl, hb4⟩))
  all_goals
    go_wp2
    go_ret
    exact ⟨rfl, below_step HB.out.drew hb4⟩
end Go.Proofs.Ytemecgbiidjbmaa

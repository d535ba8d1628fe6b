/- The contracts of package check's sums: More and Sum, for every sum and every text. -/
import Derived.Test.YtemecgbiidjbmaaNum
namespace Go.Proofs.Ytemecgbiidjbmaa
open Go.RowKit

/-- one byte more: the two halves of a sum -/
def adS (p : Int × Int) (x : UInt8) : Int × Int := ((p.1 + (p.2 + x.toNat)) % 65521, (p.2 + x.toNat) % 65521)
def adL (p : Int × Int) (l : List UInt8) : Int × Int := l.foldl adS p
def adOf (p : Int × Int) : Int := p.1 * 65536 + p.2
def adTo (sum : Int) : Int × Int := ((sum / 65536) % 65521, (sum % 65536) % 65521)
def adOk (p : Int × Int) : Prop := 0 ≤ p.1 ∧ p.1 < 65521 ∧ 0 ≤ p.2 ∧ p.2 < 65521
def more (sum : Int) (l : List UInt8) : Int := adOf (adL (adTo sum) l)

theorem adS_ok {p : Int × Int} (x : UInt8) : adOk (adS p x) := by
  unfold adOk adS; refine ⟨?_, ?_, ?_, ?_⟩ <;> dsimp only <;> omega
theorem adL_ok {p : Int × Int} (h : adOk p) (l : List UInt8) : adOk (adL p l) := by
  induction l generalizing p with
  | nil => exact h
  | cons x l ih => exact ih (adS_ok x)
theorem adTo_ok (sum : Int) : adOk (adTo sum) := by
  unfold adOk adTo; refine ⟨?_, ?_, ?_, ?_⟩ <;> dsimp only <;> omega
theorem more_bd (sum : Int) (l : List UInt8) : 0 ≤ more sum l ∧ more sum l ≤ 4294967295 := by
  obtain ⟨h1, h2, h3, h4⟩ := adL_ok (adTo_ok sum) l
  unfold more adOf; omega

theorem adL_snoc (p : Int × Int) (l : List UInt8) (x : UInt8) : adL p (l ++ [x]) = adS (adL p l) x := by simp [adL]

theorem mask65535 (x : Int) (h0 : 0 ≤ x) (h1 : x ≤ 4294967295) : bits .and .u32 x 65535 = x % 65536 := by
  rw [u32_and x 65535 h0 (by omega) (by omega) (by omega)]
  have := nat_mask16 x.toNat
  rw [show (65535 : Int).toNat = 65535 from rfl, this]
  omega

/-- a block of one number -/
def box (w : World) (g : Nat) (x : Int) : Prop := w.heap[g]? = some (.cells #[.int .u32 x] 27 (0, 0))

theorem box_set {w : World} {g : Nat} {x : Int} (h : box w g x) (y : Int) : box (w.setCell ⟨g, 0, none⟩ (.int .u32 y)) g y := one_setCell h
theorem box_far {w : World} {g g' : Nat} {x : Int} (h : box w g x) (hne : g ≠ g') (u : Value) : box (w.setCell ⟨g', 0, none⟩ u) g x := (Below.heap_setCell w ⟨g', 0, none⟩ u g hne).trans h

set_option maxHeartbeats 400000 in
theorem add_any (x : UInt8) (p : Int × Int) (hp : adOk p) (ga gb : Nat) (hne : ga ≠ gb) (w : World) (ha : box w ga p.1) (hb : box w gb p.2) :
    Calls Try.prog 12 #[.int .u8 (x.toNat : Int), .pointer (some ⟨gb, 0, none⟩), .pointer (some ⟨ga, 0, none⟩)] w fun e w' => e = .returned (.tuple #[]) ∧
      (w.setCell ⟨gb, 0, none⟩ (.int .u32 (adS p x).2)).setCell ⟨ga, 0, none⟩ (.int .u32 (adS p x).1) = w' := by
  obtain ⟨o1, o2, o3, o4⟩ := hp
  have c1 := cell_of_one ha
  have c2 := cell_of_one hb
  have f1 := free_of_one ha
  have f2 := free_of_one hb
  have hx := x.toNat_lt
  unfold adS
  generalize (x.toNat : Nat) = y at *
  generalize p.1 = a at *
  generalize p.2 = b at *
  go_enter Try.func12, Try.ntmps12
  go_wp2
  go_end0
  exact ⟨rfl, rfl⟩

set_option maxHeartbeats 400000 in
theorem tell_any (p : Int × Int) (hp : adOk p) (ga gb : Nat) (w : World) (ha : box w ga p.1) (hb : box w gb p.2) :
    Calls Try.prog 13 #[.pointer (some ⟨ga, 0, none⟩), .pointer (some ⟨gb, 0, none⟩)] w fun e w' => e = .returned (.int .u32 (adOf p)) ∧ w = w' := by
  obtain ⟨o1, o2, o3, o4⟩ := hp
  have c1 := cell_of_one ha
  have c2 := cell_of_one hb
  unfold adOf
  generalize p.1 = a at *
  generalize p.2 = b at *
  go_enter Try.func13, Try.ntmps13
  go_wp2
  go_ret
  exact ⟨rfl, rfl⟩

set_option maxHeartbeats 800000 in
theorem more_any (sum : Int) (h0 : 0 ≤ sum) (h1 : sum ≤ 4294967295) (l : List UInt8) (hs : l.length ≤ maxLen) (w : World) :
    Calls Try.prog 8 #[.int .u32 sum, .string (str l)] w fun e w' => e = .returned (.int .u32 (more sum l)) ∧ Below w.heap.size w w' := by
  unfold maxLen at hs
  have hand := mask65535 sum h0 h1
  have hto := adTo_ok sum
  go_enter Try.func8, Try.ntmps8
  go_wp2_with go_in
  go_loopw [7, 15] (fun _ i wr => ∃ k : Nat, k ≤ l.length ∧ i = .int .i64 k ∧ Below w.heap.size w wr ∧
      box wr w.heap.size (adL (adTo sum) (l.take k)).1 ∧ box wr (w.heap.size + 1) (adL (adTo sum) (l.take k)).2)
    (fun _ i _ => l.length - (intOf i).toNat)
  case atStart =>
    refine ⟨0, by omega, rfl, ((Below.refl _ _).alloc (Nat.le_refl _) _).alloc (by simp) _, ?_, ?_⟩
    · exact (Below.heap_alloc _ _ _ (by simp)).trans (heap_alloc_new w _)
    · have := heap_alloc_new (w.alloc (.cells #[.int .u32 (sum / 65536 % 65521)] 27)) (.cells #[.int .u32 (sum % 65536 % 65521)] 27)
      simpa [box, adL, adTo] using this
  case round =>
    obtain ⟨k, hk, rfl, hbl, hb1, hb2⟩ := hrel
    have hok := adL_ok hto (l.take k)
    by_cases hlt : k < l.length
    · have hsn := adL_snoc (adTo sum) (l.take k) l[k]
      rw [← take_snoc l k hlt] at hsn
      have Hsn := Lib.hid hsn
      clear hsn
      generalize adL (adTo sum) (l.take k) = p at *
      have hb1' : box ((wr.setCell ⟨w.heap.size + 1, 0, none⟩ (.int .u32 (adS p l[k]).2)).setCell ⟨w.heap.size, 0, none⟩ (.int .u32 (adS p l[k]).1)) w.heap.size (adS p l[k]).1 := box_set (box_far hb1 (by omega) _) _
      have hb2' : box ((wr.setCell ⟨w.heap.size + 1, 0, none⟩ (.int .u32 (adS p l[k]).2)).setCell ⟨w.heap.size, 0, none⟩ (.int .u32 (adS p l[k]).1)) (w.heap.size + 1) (adS p l[k]).2 := box_far (box_set hb2 _) (by omega) _
      have Hc := Lib.hid (add_any l[k] p hok w.heap.size (w.heap.size + 1) (by omega) wr hb1 hb2)
      go_wp2_with (go_at_call 12; refine (Hc.out).mono ?_; rintro e w' ⟨rfl, rfl⟩)
      go_roundw
      case rel =>
        have R : Below w.heap.size w ((wr.setCell ⟨w.heap.size + 1, 0, none⟩ (.int .u32 (adS p l[k]).2)).setCell ⟨w.heap.size, 0, none⟩ (.int .u32 (adS p l[k]).1)) := (hbl.setCell (by simp) _).setCell (Nat.le_refl _) _
        repeat apply Exists.intro
        exact ⟨⟨k + 1, by omega, by go_num, R, by rw [Hsn.out]; exact hb1', by rw [Hsn.out]; exact hb2'⟩, rfl⟩
      case measure => simp [intOf]; omega
    · have hfin : more sum l = adOf (adL (adTo sum) (l.take k)) := by
        unfold more
        rw [List.take_of_length_le (by omega)]
      have Hfin := Lib.hid hfin
      clear hfin
      generalize adL (adTo sum) (l.take k) = p at *
      go_wp2_with (go_at_call 13; refine (tell_any p hok w.heap.size (w.heap.size + 1) wr hb1 hb2).mono ?_; rintro e w' ⟨rfl, rfl⟩)
      go_ret
      exact ⟨by rw [Hfin.out]; rfl, hbl⟩
end Go.Proofs.Ytemecgbiidjbmaa

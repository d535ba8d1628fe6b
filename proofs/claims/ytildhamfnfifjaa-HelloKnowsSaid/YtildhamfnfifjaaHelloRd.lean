/- The contract of hello.Read, for every input. -/
import Derived.Test.YtildhamfnfifjaaHelloB
set_option maxRecDepth 100000
namespace Go.Proofs.Ytildhamfnfifjaa
open Go.RowKit

def noHello : Value := .agg #[.int .i64 0, .int .u32 0, .int .u32 0, .int .u32 0, .int .u32 0]
def helloV (y : UInt8) (r : List UInt8) : Value := .agg #[.int .i64 y.toNat, .int .u32 (quad r 0), .int .u32 (quad r 1), .int .u32 (quad r 2), .int .u32 (quad r 3)]
def helloOk (y : UInt8) (r : List UInt8) : Bool := rightB y.toNat (quad r 0) (quad r 1) && decide (r.length = 16)

set_option maxHeartbeats 800000 in
theorem hello_short (l : List UInt8) (hl : l.length < 17) (w : World) :
    Calls Try.prog 17 #[.string (str l)] w
      fun e w' => e = .returned (.tuple #[noHello, .int .i64 2]) ∧ Below w.heap.size w w' := by
  have HB0 := Lib.hid ((Below.refl w.heap.size w).alloc (Nat.le_refl _) (.cells #[.int .i64 0, .int .u32 0, .int .u32 0, .int .u32 0, .int .u32 0] 28))
  go_enter Try.func17, Try.ntmps17
  go_wp2
  exact bodyPost_ret (v := .tuple #[noHello, .int .i64 2]) (by simp [results, Try.results17, noHello, go_sem]) rfl ⟨rfl, HB0.out⟩

theorem alloc_size (w : World) (o : Obj) : (w.alloc o).heap.size = w.heap.size + 1 := by simp

set_option maxHeartbeats 1600000 in
theorem hello_wrong (y : UInt8) (r : List UInt8) (h16 : 16 ≤ r.length) (hm : r.length ≤ 1000000) (hr : rightB y.toNat (quad r 0) (quad r 1) = false) (w : World) :
    Calls Try.prog 17 #[.string (str (y :: r))] w
      fun e w' => e = .returned (.tuple #[noHello, .int .i64 3]) ∧ Below w.heap.size w w' := by
  have HB := Lib.hid ((Below.refl w.heap.size w).alloc (Nat.le_refl _) (.cells #[.int .i64 0, .int .u32 0, .int .u32 0, .int .u32 0, .int .u32 0] 28))
  have HR := Lib.hid (RowIs.new w #[.int .i64 0, .int .u32 0, .int .u32 0, .int .u32 0, .int .u32 0] 28)
  have et := takeOf_one y r
  have hy := y.toNat_lt
  have wy : IntKind.i64.wrap (y.toNat : Int) = (y.toNat : Int) := IntWalk.i64_in _ ⟨by omega, by omega⟩
  have hm1 : (y :: r).length ≤ maxLen := by simp [maxLen]; omega
  have hm2 : r.length ≤ maxLen := by simp [maxLen]; omega
  have hm3 : (r.drop 16).length ≤ maxLen := by simp [maxLen]; omega
  go_enter Try.func17, Try.ntmps17
  go_wp2_with (first
    | (go_at_call 66; refine (take_any (y :: r) 1 hm1 _).mono ?_; rintro e w1 ⟨rfl, hb1⟩; rw [et]; replace HB := Lib.hid (below_step HB.out hb1); replace HR := Lib.hid (HR.out.keep hb1); clear hb1)
    | (go_at_call 67; refine (pair_read r h16 hm2 _).mono ?_; rintro e w2 ⟨rfl, hb2⟩; unfold pairOf; replace HB := Lib.hid (below_step HB.out hb2); replace HR := Lib.hid (HR.out.keep hb2); clear hb2)
    | (go_at_call 19; refine (right_any y.toNat (quad r 0) (quad r 1) (quad r 2) (quad r 3) _).mono ?_; rintro e w3 ⟨rfl, hb3⟩; rw [hr]
       have R8 := Lib.hid ((RowIs.new (w2.alloc (.cells #[.int .u32 (quad r 0), .int .u32 (quad r 1), .int .u32 (quad r 2), .int .u32 (quad r 3)] 26)) #[.int .i64 y.toNat, .int .u32 (quad r 0), .int .u32 (quad r 1), .int .u32 (quad r 2), .int .u32 (quad r 3)] 28).keep hb3)
       replace HR := Lib.hid (((HR.out.under _).under _).keep hb3)
       replace HB := Lib.hid (below_step ((HB.out.alloc HB.out.size (.cells #[.int .u32 (quad r 0), .int .u32 (quad r 1), .int .u32 (quad r 2), .int .u32 (quad r 3)] 26)).alloc (Nat.le_trans HB.out.size (by simp)) (.cells #[.int .i64 y.toNat, .int .u32 (quad r 0), .int .u32 (quad r 1), .int .u32 (quad r 2), .int .u32 (quad r 3)] 28)) hb3)
       clear hb3
       have c0 := HR.out.2.1 0 _ rfl; have c1 := HR.out.2.1 1 _ rfl; have c2 := HR.out.2.1 2 _ rfl; have c3 := HR.out.2.1 3 _ rfl; have c4 := HR.out.2.1 4 _ rfl
       have f0 := HR.out.2.2 0 (by simp); have f1 := HR.out.2.2 1 (by simp); have f2 := HR.out.2.2 2 (by simp); have f3 := HR.out.2.2 3 (by simp); have f4 := HR.out.2.2 4 (by simp)))

  exact bodyPost_ret (v := .tuple #[noHello, .int .i64 3]) (by simp [results, Try.results17, noHello, go_sem, c0, c1, c2, c3, c4]) rfl ⟨rfl, (((((HB.out.setCell (p := ⟨w.heap.size, 0, none⟩) (Nat.le_refl _) (.int .i64 0)).setCell (p := ⟨w.heap.size, 1, none⟩) (Nat.le_refl _) (.int .u32 0)).setCell (p := ⟨w.heap.size, 2, none⟩) (Nat.le_refl _) (.int .u32 0)).setCell (p := ⟨w.heap.size, 3, none⟩) (Nat.le_refl _) (.int .u32 0)).setCell (p := ⟨w.heap.size, 4, none⟩) (Nat.le_refl _) (.int .u32 0))⟩

set_option maxHeartbeats 1600000 in
theorem hello_more (y : UInt8) (r : List UInt8) (h16 : 16 ≤ r.length) (hm : r.length ≤ 1000000) (hr : rightB y.toNat (quad r 0) (quad r 1) = true) (hl : 16 < r.length) (w : World) :
    Calls Try.prog 17 #[.string (str (y :: r))] w
      fun e w' => e = .returned (.tuple #[noHello, .int .i64 3]) ∧ Below w.heap.size w w' := by
  have HB := Lib.hid ((Below.refl w.heap.size w).alloc (Nat.le_refl _) (.cells #[.int .i64 0, .int .u32 0, .int .u32 0, .int .u32 0, .int .u32 0] 28))
  have HR := Lib.hid (RowIs.new w #[.int .i64 0, .int .u32 0, .int .u32 0, .int .u32 0, .int .u32 0] 28)
  have et := takeOf_one y r
  have hy := y.toNat_lt
  have wy : IntKind.i64.wrap (y.toNat : Int) = (y.toNat : Int) := IntWalk.i64_in _ ⟨by omega, by omega⟩
  have hm1 : (y :: r).length ≤ maxLen := by simp [maxLen]; omega
  have hm2 : r.length ≤ maxLen := by simp [maxLen]; omega
  have hm3 : (r.drop 16).length ≤ maxLen := by simp [maxLen]; omega
  have Hd := Lib.hid (show ¬ r.drop 16 = [] from by intro h; have := congrArg List.length h; simp at this; omega)
  go_enter Try.func17, Try.ntmps17
  go_wp2_with (first
    | (go_at_call 66; refine (take_any (y :: r) 1 hm1 _).mono ?_; rintro e w1 ⟨rfl, hb1⟩; rw [et]; replace HB := Lib.hid (below_step HB.out hb1); replace HR := Lib.hid (HR.out.keep hb1); clear hb1)
    | (go_at_call 67; refine (pair_read r h16 hm2 _).mono ?_; rintro e w2 ⟨rfl, hb2⟩; unfold pairOf; replace HB := Lib.hid (below_step HB.out hb2); replace HR := Lib.hid (HR.out.keep hb2); clear hb2)
    | (go_at_call 19; refine (right_any y.toNat (quad r 0) (quad r 1) (quad r 2) (quad r 3) _).mono ?_; rintro e w3 ⟨rfl, hb3⟩; rw [hr]
       have R8 := Lib.hid ((RowIs.new (w2.alloc (.cells #[.int .u32 (quad r 0), .int .u32 (quad r 1), .int .u32 (quad r 2), .int .u32 (quad r 3)] 26)) #[.int .i64 y.toNat, .int .u32 (quad r 0), .int .u32 (quad r 1), .int .u32 (quad r 2), .int .u32 (quad r 3)] 28).keep hb3)
       replace HR := Lib.hid (((HR.out.under _).under _).keep hb3)
       replace HB := Lib.hid (below_step ((HB.out.alloc HB.out.size (.cells #[.int .u32 (quad r 0), .int .u32 (quad r 1), .int .u32 (quad r 2), .int .u32 (quad r 3)] 26)).alloc (Nat.le_trans HB.out.size (by simp)) (.cells #[.int .i64 y.toNat, .int .u32 (quad r 0), .int .u32 (quad r 1), .int .u32 (quad r 2), .int .u32 (quad r 3)] 28)) hb3)
       clear hb3)
    | (go_at_call 68; refine (rest_any (r.drop 16) hm3 _).mono ?_; rintro e w4 ⟨rfl, hb4⟩; rw [if_neg Hd.out]; replace HB := Lib.hid (below_step HB.out hb4); replace HR := Lib.hid (HR.out.keep hb4); replace R8 := Lib.hid (R8.out.keep hb4); clear hb4
       have c0 := HR.out.2.1 0 _ rfl; have c1 := HR.out.2.1 1 _ rfl; have c2 := HR.out.2.1 2 _ rfl; have c3 := HR.out.2.1 3 _ rfl; have c4 := HR.out.2.1 4 _ rfl
       have f0 := HR.out.2.2 0 (by simp); have f1 := HR.out.2.2 1 (by simp); have f2 := HR.out.2.2 2 (by simp); have f3 := HR.out.2.2 3 (by simp); have f4 := HR.out.2.2 4 (by simp)))

  exact bodyPost_ret (v := .tuple #[noHello, .int .i64 3]) (by simp [results, Try.results17, noHello, go_sem, c0, c1, c2, c3, c4]) rfl ⟨rfl, (((((HB.out.setCell (p := ⟨w.heap.size, 0, none⟩) (Nat.le_refl _) (.int .i64 0)).setCell (p := ⟨w.heap.size, 1, none⟩) (Nat.le_refl _) (.int .u32 0)).setCell (p := ⟨w.heap.size, 2, none⟩) (Nat.le_refl _) (.int .u32 0)).setCell (p := ⟨w.heap.size, 3, none⟩) (Nat.le_refl _) (.int .u32 0)).setCell (p := ⟨w.heap.size, 4, none⟩) (Nat.le_refl _) (.int .u32 0))⟩

set_option maxHeartbeats 1600000 in
theorem hello_ok (y : UInt8) (r : List UInt8) (h16 : 16 ≤ r.length) (_hm : r.length ≤ 1000000) (hr : rightB y.toNat (quad r 0) (quad r 1) = true) (hl : r.length = 16) (w : World) :
    Calls Try.prog 17 #[.string (str (y :: r))] w
      fun e w' => e = .returned (.tuple #[helloV y r, .int .i64 0]) ∧ Below w.heap.size w w' := by
  have HB := Lib.hid ((Below.refl w.heap.size w).alloc (Nat.le_refl _) (.cells #[.int .i64 0, .int .u32 0, .int .u32 0, .int .u32 0, .int .u32 0] 28))
  have HR := Lib.hid (RowIs.new w #[.int .i64 0, .int .u32 0, .int .u32 0, .int .u32 0, .int .u32 0] 28)
  have et := takeOf_one y r
  have hy := y.toNat_lt
  have wy : IntKind.i64.wrap (y.toNat : Int) = (y.toNat : Int) := IntWalk.i64_in _ ⟨by omega, by omega⟩
  have hm1 : (y :: r).length ≤ maxLen := by simp [maxLen]; omega
  have hm2 : r.length ≤ maxLen := by simp [maxLen]; omega
  have hm3 : (r.drop 16).length ≤ maxLen := by simp [maxLen]; omega
  have Hd := Lib.hid (show r.drop 16 = [] from List.drop_eq_nil_of_le (by omega))
  go_enter Try.func17, Try.ntmps17
  go_wp2_with (first
    | (go_at_call 66; refine (take_any (y :: r) 1 hm1 _).mono ?_; rintro e w1 ⟨rfl, hb1⟩; rw [et]; replace HB := Lib.hid (below_step HB.out hb1); replace HR := Lib.hid (HR.out.keep hb1); clear hb1)
    | (go_at_call 67; refine (pair_read r h16 hm2 _).mono ?_; rintro e w2 ⟨rfl, hb2⟩; unfold pairOf; replace HB := Lib.hid (below_step HB.out hb2); replace HR := Lib.hid (HR.out.keep hb2); clear hb2)
    | (go_at_call 19; refine (right_any y.toNat (quad r 0) (quad r 1) (quad r 2) (quad r 3) _).mono ?_; rintro e w3 ⟨rfl, hb3⟩; rw [hr]
       have R8 := Lib.hid ((RowIs.new (w2.alloc (.cells #[.int .u32 (quad r 0), .int .u32 (quad r 1), .int .u32 (quad r 2), .int .u32 (quad r 3)] 26)) #[.int .i64 y.toNat, .int .u32 (quad r 0), .int .u32 (quad r 1), .int .u32 (quad r 2), .int .u32 (quad r 3)] 28).keep hb3)
       replace HR := Lib.hid (((HR.out.under _).under _).keep hb3)
       replace HB := Lib.hid (below_step ((HB.out.alloc HB.out.size (.cells #[.int .u32 (quad r 0), .int .u32 (quad r 1), .int .u32 (quad r 2), .int .u32 (quad r 3)] 26)).alloc (Nat.le_trans HB.out.size (by simp)) (.cells #[.int .i64 y.toNat, .int .u32 (quad r 0), .int .u32 (quad r 1), .int .u32 (quad r 2), .int .u32 (quad r 3)] 28)) hb3)
       clear hb3)
    | (go_at_call 68; refine (rest_any (r.drop 16) hm3 _).mono ?_; rintro e w4 ⟨rfl, hb4⟩; rw [if_pos Hd.out]; replace HB := Lib.hid (below_step HB.out hb4); replace HR := Lib.hid (HR.out.keep hb4); replace R8 := Lib.hid (R8.out.keep hb4); clear hb4
       have c0 := HR.out.2.1 0 _ rfl; have c1 := HR.out.2.1 1 _ rfl; have c2 := HR.out.2.1 2 _ rfl; have c3 := HR.out.2.1 3 _ rfl; have c4 := HR.out.2.1 4 _ rfl
       have f0 := HR.out.2.2 0 (by simp); have f1 := HR.out.2.2 1 (by simp); have f2 := HR.out.2.2 2 (by simp); have f3 := HR.out.2.2 3 (by simp); have f4 := HR.out.2.2 4 (by simp)
       have d0 := R8.out.2.1 0 _ rfl; have d1 := R8.out.2.1 1 _ rfl; have d2 := R8.out.2.1 2 _ rfl; have d3 := R8.out.2.1 3 _ rfl; have d4 := R8.out.2.1 4 _ rfl
       (try simp only [alloc_size] at d0 d1 d2 d3 d4)))

  exact bodyPost_ret (v := .tuple #[helloV y r, .int .i64 0]) (by simp [results, Try.results17, helloV, go_sem, c0, c1, c2, c3, c4]) rfl ⟨rfl, (((((HB.out.setCell (p := ⟨w.heap.size, 0, none⟩) (Nat.le_refl _) (.int .i64 y.toNat)).setCell (p := ⟨w.heap.size, 1, none⟩) (Nat.le_refl _) (.int .u32 (quad r 0))).setCell (p := ⟨w.heap.size, 2, none⟩) (Nat.le_refl _) (.int .u32 (quad r 1))).setCell (p := ⟨w.heap.size, 3, none⟩) (Nat.le_refl _) (.int .u32 (quad r 2))).setCell (p := ⟨w.heap.size, 4, none⟩) (Nat.le_refl _) (.int .u32 (quad r 3)))⟩

end Go.Proofs.Ytildhamfnfifjaa

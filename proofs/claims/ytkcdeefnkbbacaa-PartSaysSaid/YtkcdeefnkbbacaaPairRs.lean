/- The contract of epoch.Read, for every input. -/
import Derived.Test.YtkcdeefnkbbacaaPairs
import Derived.Laws.IdiomStrings
set_option maxRecDepth 100000
namespace Go.Proofs.Ytkcdeefnkbbacaa
open Go.RowKit

/-- the k-th number of four bytes -/
def quad (l : List UInt8) (k : Nat) : Nat := valB 0 ((l.drop (4 * k)).take 4)
theorem quad_le (l : List UInt8) (k : Nat) : quad l k ≤ 4294967295 := by
  have h := valB_lt 0 ((l.drop (4 * k)).take 4)
  have h1 : ((l.drop (4 * k)).take 4).length ≤ 4 := by simp; omega
  have h2 : 256 ^ ((l.drop (4 * k)).take 4).length ≤ 256 ^ 4 := Nat.pow_le_pow_right (by omega) h1
  have h3 : (256 : Nat) ^ 4 = 4294967296 := by decide
  unfold quad
  omega
theorem takeOf_quad (l : List UInt8) (k : Nat) (h : 4 * k + 4 ≤ l.length) : takeOf (l.drop (4 * k)) 4 = (quad l k, l.drop (4 * (k + 1)), 0) := by
  unfold takeOf quad
  rw [if_neg (by omega), if_neg (by simp; omega)]
  simp [Nat.mul_add]
/-- the four cells behind j rounds -/
def quadRow (l : List UInt8) (j : Nat) : List Value := (List.range 4).map fun k => .int .u32 (if k < j then (quad l k : Int) else 0)
theorem quadRow_set (l : List UInt8) (j : Nat) (h : j < 4) : (quadRow l j).set j (.int .u32 (quad l j)) = quadRow l (j + 1) := by
  match j, h with
  | 0, _ => simp [quadRow, List.range, List.range.loop]
  | 1, _ => simp [quadRow, List.range, List.range.loop]
  | 2, _ => simp [quadRow, List.range, List.range.loop]
  | 3, _ => simp [quadRow, List.range, List.range.loop]

/-- what Read answers where there are bytes enough -/
def pairOf (l : List UInt8) : Value := .agg #[.int .u32 (quad l 0), .int .u32 (quad l 1), .int .u32 (quad l 2), .int .u32 (quad l 3)]
def noPair : Value := .agg #[.int .u32 0, .int .u32 0, .int .u32 0, .int .u32 0]

set_option maxHeartbeats 800000 in
theorem pair_short (l : List UInt8) (hl : l.length < 16) (w : World) :
    Calls Try.prog 83 #[.string (str l)] w
      fun e w' => e = .returned (.tuple #[noPair, .string (str []), .int .i64 2]) ∧ Below w.heap.size w w' := by
  have HB0 := Lib.hid ((Below.refl w.heap.size w).alloc (Nat.le_refl _) (.cells #[.int .u32 0, .int .u32 0, .int .u32 0, .int .u32 0] 26))
  go_enter Try.func83, Try.ntmps83
  go_wp2
  exact bodyPost_ret (v := .tuple #[noPair, .string (str []), .int .i64 2]) (by simp [results, Try.results83, noPair, go_sem]) rfl ⟨rfl, HB0.out⟩

theorem RowIs.other {w : World} {g : Nat} {l : List Value} (h : RowIs w g l) (p : Addr) (v : Value) (hp : p.block ≠ g) : RowIs (w.setCell p v) g l := by
  refine ⟨by simpa using h.1, fun j u hj => ?_, fun j hj => ?_⟩
  · rw [World.cell?_setCell_other _ _ _ _ (by intro e; exact hp (by rw [e]))]
    exact h.2.1 j u hj
  · have := h.2.2 j hj
    simpa [go_sem] using this
theorem RowIs.new (w : World) (cs : Array Value) (t : TypeId) : RowIs (w.alloc (.cells cs t)) w.heap.size cs.toList := by
  refine ⟨by simp [go_sem], fun j u hj => ?_, fun j hj => ?_⟩
  · rw [World.cell?_alloc_mark]
    simpa using hj
  · rw [World.frozen?_alloc_mark]
    simp
theorem RowIs.under {w : World} {g : Nat} {l : List Value} (h : RowIs w g l) (o : Obj) : RowIs (w.alloc o) g l :=
  h.keep ((Below.refl _ _).alloc (Nat.le_refl _) o)

set_option maxHeartbeats 1600000 in
theorem pair_read (l : List UInt8) (hl : 16 ≤ l.length) (hm : l.length ≤ maxLen) (w : World) :
    Calls Try.prog 83 #[.string (str l)] w
      fun e w' => e = .returned (.tuple #[pairOf l, .string (str (l.drop 16)), .int .i64 0]) ∧ Below w.heap.size w w' := by
  unfold maxLen at hm
  have HB0 := Lib.hid ((((Below.refl w.heap.size w).alloc (Nat.le_refl _) (.cells #[.int .u32 0, .int .u32 0, .int .u32 0, .int .u32 0] 26))).alloc (by simp) (.cells #[.int .u32 0, .int .u32 0, .int .u32 0, .int .u32 0] 162))
  go_enter Try.func83, Try.ntmps83
  go_wp2
  go_loopw [0, 16] (fun s i wr => ∃ j : Nat, j ≤ 4 ∧ i = .int .i64 j ∧ s = .string (str (l.drop (4 * j))) ∧ Below w.heap.size w wr ∧
      RowIs wr w.heap.size (quadRow l 0) ∧ RowIs wr (w.heap.size + 1) (quadRow l j)) (fun _ i _ => (4 - intOf i).toNat)
  case atStart =>
    refine ⟨0, by omega, rfl, rfl, HB0.out, ?_, ?_⟩
    · exact (RowIs.new w #[.int .u32 0, .int .u32 0, .int .u32 0, .int .u32 0] 26).under _
    · have := RowIs.new (w.alloc (.cells #[.int .u32 0, .int .u32 0, .int .u32 0, .int .u32 0] 26)) #[.int .u32 0, .int .u32 0, .int .u32 0, .int .u32 0] 162
      have e0 : quadRow l 0 = [.int .u32 0, .int .u32 0, .int .u32 0, .int .u32 0] := by simp [quadRow, List.range, List.range.loop]
      rw [e0]
      simpa [go_sem] using this
  case round =>
    obtain ⟨j, hj, rfl, rfl, hbl, hr0, hr1⟩ := hrel
    have HBR := Lib.hid hbl
    have HR0 := Lib.hid hr0
    have HR1 := Lib.hid hr1
    by_cases hlt : j < 4
    · have et := takeOf_quad l j (by omega)
      have hq := quad_le l j
      have wq : IntKind.u32.wrap (quad l j : Int) = (quad l j : Int) := by
        simp only [IntKind.wrap, IntKind.signed, IntKind.bits]
        simp
        omega
      have hlen : (l.drop (4 * j)).length ≤ maxLen := by simp [maxLen]; omega
      clear hbl hr0 hr1
      go_wp2_with (first
        | (go_at_call 82; refine (take_any (l.drop (4 * j)) 4 hlen _).mono ?_; rintro e w1 ⟨rfl, hb1⟩; rw [et]; replace HBR := Lib.hid (below_step HBR.out hb1); replace HR0 := Lib.hid (HR0.out.keep hb1); replace HR1 := Lib.hid (HR1.out.keep hb1); clear hb1
           have c1 := HR1.out.2.1 j (.int .u32 0) (by simp [quadRow, hlt])
           have f1 := HR1.out.2.2 j (by simp [quadRow, hlt])))
      go_roundw
      case rel => exact ⟨j + 1, by omega, by go_num, rfl, HBR.out.setCell (Nat.le_succ _) _, HR0.out.other _ _ (by simp), by rw [← quadRow_set l j hlt]; exact HR1.out.store j _ (by simp [quadRow, hlt])⟩
      case measure => simp [intOf]; omega
    · obtain rfl : j = 4 := by omega
      have hs := hr1.1
      have hs2 := hr0.1
      have k0 := hr1.2.1 0 (.int .u32 (quad l 0)) (by simp [quadRow, List.range, List.range.loop])
      have k1 := hr1.2.1 1 (.int .u32 (quad l 1)) (by simp [quadRow, List.range, List.range.loop])
      have k2 := hr1.2.1 2 (.int .u32 (quad l 2)) (by simp [quadRow, List.range, List.range.loop])
      have k3 := hr1.2.1 3 (.int .u32 (quad l 3)) (by simp [quadRow, List.range, List.range.loop])
      have m0 := hr0.2.1 0 (.int .u32 0) (by simp [quadRow, List.range, List.range.loop])
      have m1 := hr0.2.1 1 (.int .u32 0) (by simp [quadRow, List.range, List.range.loop])
      have m2 := hr0.2.1 2 (.int .u32 0) (by simp [quadRow, List.range, List.range.loop])
      have m3 := hr0.2.1 3 (.int .u32 0) (by simp [quadRow, List.range, List.range.loop])
      have z0 := hr0.2.2 0 (by simp [quadRow])
      have z1 := hr0.2.2 1 (by simp [quadRow])
      have z2 := hr0.2.2 2 (by simp [quadRow])
      have z3 := hr0.2.2 3 (by simp [quadRow])
      have n1 : w.heap.size + 1 ≠ wr.heap.size := by omega
      have n2 : w.heap.size ≠ wr.heap.size := by omega
      have HBF := Lib.hid ((((((HBR.out.setCell (p := ⟨w.heap.size, 0, none⟩) (Nat.le_refl _) (.int .u32 (quad l 0))).setCell (p := ⟨w.heap.size, 1, none⟩) (Nat.le_refl _) (.int .u32 (quad l 1))).setCell (p := ⟨w.heap.size, 2, none⟩) (Nat.le_refl _) (.int .u32 (quad l 2))).setCell (p := ⟨w.heap.size, 3, none⟩) (Nat.le_refl _) (.int .u32 (quad l 3))).alloc (by simp; omega) (.cells #[.int .u32 (quad l 0), .int .u32 (quad l 1)] 24)).alloc (by simp; omega) (.cells #[.int .u32 (quad l 2), .int .u32 (quad l 3)] 24))
      clear hbl hr0 hr1 HR0 HR1
      go_wp2
      exact bodyPost_ret (v := .tuple #[pairOf l, .string (str (l.drop 16)), .int .i64 0]) (by simp [results, Try.results83, pairOf, go_sem, m0, m1, m2, m3, hs2]) rfl ⟨rfl, HBF.out⟩
end Go.Proofs.Ytkcdeefnkbbacaa

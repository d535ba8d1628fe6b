/- The contract of pack.Num: the lowest bytes of a number, the highest one first. It holds for every number and every count of bytes. -/
import Derived.Test.YtkcdeefnkbbacaaStr
set_option maxRecDepth 100000
namespace Go.Proofs.Ytkcdeefnkbbacaa
open Go.RowKit

theorem info_u8 : (Try.prog.info? 5).map (fun i => (i.zero, i.size, i.bytes)) = some (some (.int .u8 0), 1, 1) := by kernel_rfl

/-- n without its m lowest bytes -/
def shr8 (n m : Nat) : Nat := n / 256 ^ m
theorem shr8_zero (n : Nat) : shr8 n 0 = n := by simp [shr8]
theorem shr8_succ (n m : Nat) : shr8 n (m + 1) = shr8 n m / 256 := by unfold shr8; rw [Nat.pow_succ, Nat.div_div_eq_div_mul]
theorem shr8_le (n m : Nat) : shr8 n m ≤ n := Nat.div_le_self _ _
/-- the k lowest bytes of n, the highest one first -/
def numB (n : Nat) : Nat → List UInt8
  | 0 => []
  | k + 1 => UInt8.ofNat (shr8 n k % 256) :: numB n k
theorem numB_length (n k : Nat) : (numB n k).length = k := by
  induction k with
  | zero => rfl
  | succ k ih => simp [numB, ih]
/-- the number that bytes are, behind one that is there -/
def valB (acc : Nat) (l : List UInt8) : Nat := l.foldl (fun a b => a * 256 + b.toNat) acc
theorem valB_numB (n k acc : Nat) : valB acc (numB n k) = acc * 256 ^ k + n % 256 ^ k := by
  induction k generalizing acc with
  | zero => simp [valB, numB, Nat.mod_one]
  | succ k ih =>
    have e : valB acc (numB n (k + 1)) = valB (acc * 256 + (UInt8.ofNat (shr8 n k % 256)).toNat) (numB n k) := rfl
    have h1 : (UInt8.ofNat (shr8 n k % 256)).toNat = shr8 n k % 256 := by
      rw [UInt8.toNat_ofNat']
      exact Nat.mod_eq_of_lt (Nat.mod_lt _ (by omega))
    rw [e, ih, h1]
    have h2 : n % 256 ^ (k + 1) = n % 256 ^ k + 256 ^ k * (n / 256 ^ k % 256) := by rw [Nat.pow_succ, Nat.mod_mul]
    rw [h2, Nat.pow_succ, Nat.add_mul]
    unfold shr8
    rw [Nat.mul_comm (n / 256 ^ k % 256) (256 ^ k), Nat.mul_assoc acc, Nat.mul_comm 256]
    omega
theorem numB_inj {n m k : Nat} (hn : n < 256 ^ k) (hm : m < 256 ^ k) (h : numB n k = numB m k) : n = m := by
  have h1 := valB_numB n k 0
  have h2 := valB_numB m k 0
  rw [h] at h1
  rw [h1, Nat.mod_eq_of_lt hn, Nat.mod_eq_of_lt hm] at h2
  omega

/-- 'string(b)' where the cells of b are the bytes l -/
theorem run_string_of (w : World) (a : Addr) (n cap : Nat) (l : List UInt8) (hl : l.length = n) (hc : ∀ j u, (bcells l)[j]? = some u → w.cell? (a.add j) = some u) :
    (convert 109 9 (.slice (some a) n cap)).run Try.prog w = .ok (.string (str l)) w := by
  subst hl
  exact run_convert_bytes_back w 109 9 5 a cap l Try.underlying109 Try.underlying5 Try.underlying9 (fun j hj => hc j _ (by simp [bcells, List.getElem?_eq_getElem hj]))

theorem mask255 (q : Nat) (h : q ≤ 18446744073709551615) : bits .and .u64 (q : Int) 255 = ((q % 256 : Nat) : Int) := by
  have := u64_and_nat q 255 (by omega) (by omega)
  rw [nat_mask8] at this
  exact this

theorem num_row {w : World} {B g c m : Nat} {n : Nat} (hm : m < c)
    (hown : w.ownsRow B 5 1 (.slice (some ⟨g, 0, none⟩) c c) c (List.replicate (c - m) (.int .u8 0) ++ bcells (numB n m))) :
    w.cell? ⟨g, c - m - 1, none⟩ = some (.int .u8 0) ∧ w.frozen? ⟨g, c - m - 1, none⟩ = false ∧
      (w.setCell ⟨g, c - m - 1, none⟩ (.int .u8 ((shr8 n m : Nat) % 256 : Int))).ownsRow B 5 1 (.slice (some ⟨g, 0, none⟩) c c) c (List.replicate (c - (m + 1)) (.int .u8 0) ++ bcells (numB n (m + 1))) := by
  refine ⟨?_, hown.frozenAt _, ?_⟩
  · rw [hown.cellAt (c - m - 1) (by omega), List.getElem?_append_left (by simp; omega), List.getElem?_replicate, if_pos (by omega)]
  · have h := (hown.stored (c - m - 1) (.int .u8 ((shr8 n m : Nat) % 256 : Int))).1
    have e : (List.replicate (c - m) (Value.int .u8 0) ++ bcells (numB n m)).set (c - m - 1) (.int .u8 ((shr8 n m : Nat) % 256 : Int)) = List.replicate (c - (m + 1)) (.int .u8 0) ++ bcells (numB n (m + 1)) := by
      obtain ⟨d, rfl⟩ : ∃ d, c = d + m + 1 := ⟨c - m - 1, by omega⟩
      rw [show d + m + 1 - m - 1 = d from by omega, show d + m + 1 - m = d + 1 from by omega, show d + m + 1 - (m + 1) = d from by omega]
      rw [List.set_append_left _ _ (by simp), List.replicate_succ', List.set_append_right _ _ (by simp)]
      simp [bcells, numB]
    rw [e] at h
    exact h

set_option maxHeartbeats 400000 in
theorem num_at (n : Nat) (hn : n ≤ 18446744073709551615) (k : Int) (c : Nat) (hc : c ≤ 8) (hk : k = c ∨ (k < 0 ∧ c < 1) ∨ (8 < k ∧ 8 ≤ c)) (w : World) :
    Calls Try.prog 100 #[.int .u64 n, .int .i64 k] w fun e w' => e = .returned (.string (str (numB n c))) ∧ Below w.heap.size w w' := by
  obtain ⟨i0, hi, hz0, hz1, hz2⟩ := info_parts info_u8
  rcases hk with rfl | ⟨hk, hc'⟩ | ⟨hk, hc'⟩
  all_goals
    go_enter Try.func100, Try.ntmps100
    go_wp2_with (at_make; refine wpList_make_full _ rfl (.tmp 10) (.tmp 10) 109 rfl w.heap.size 5 i0 (.int .u8 0) 1 Try.underlying109 hi hz0 hz1 .i64 .i64 _ _ c rfl rfl (by omega) (by omega) (by rw [hz2]; omega) (by simp only [maxLen]; omega) (Nat.le_refl _) ?_; intro w1 hown1 hg1)
    go_loopw [0, 6] (fun t i wr => ∃ m : Nat, m ≤ c ∧ t = .int .u64 (shr8 n m : Nat) ∧ i = .int .i64 (c - m - 1) ∧ Below w.heap.size w wr ∧
       wr.ownsRow w.heap.size 5 1 (.slice (some ⟨w.heap.size, 0, none⟩) c c) c (List.replicate (c - m) (.int .u8 0) ++ bcells (numB n m)))
      (fun _ i _ => (intOf i + 1).toNat)
    case atStart => exact ⟨0, by omega, by rw [shr8_zero], by go_num, (Below.refl _ _).grown hg1 (Nat.le_refl _) (by simp), by simpa [bcells, numB, toList_madeCells_one, Value.cells] using hown1⟩
    case round =>
      obtain ⟨m, hm, rfl, rfl, hbl, hown⟩ := hrel
      by_cases hlt : m < c
      · obtain ⟨h1, h2, h3⟩ := num_row hlt hown
        have H3 := Lib.hid h3
        have h4 := mask255 (shr8 n m) (Nat.le_trans (shr8_le n m) hn)
        have h5 := Nat.le_trans (shr8_le n m) hn
        clear h3 hown
        go_wp2
        all_goals go_roundw
        all_goals first | exact ⟨m + 1, by omega, by rw [shr8_succ]; go_num, by go_num, hbl.setCell (Nat.le_refl _) _, H3.out⟩ | (simp [intOf]; omega)
      · obtain rfl : m = c := by omega
        have hcv := run_string_of wr ⟨w.heap.size, 0, none⟩ m m (numB n m) (numB_length n m) (by
          intro j u hj
          have hj' : j < m := by
            have := (List.getElem?_eq_some_iff.1 hj).1
            simpa [bcells_length, numB_length] using this
          rw [Addr.add_lit, Nat.zero_add, hown.cellAt j (by omega)]
          simpa using hj)
        clear hown
        go_wp2
        go_ret
        exact ⟨rfl, hbl⟩
/-- whatever the count of bytes -/
theorem num_any (n : Nat) (hn : n ≤ 18446744073709551615) (k : Int) (w : World) :
    Calls Try.prog 100 #[.int .u64 n, .int .i64 k] w fun e w' => e = .returned (.string (str (numB n (min k.toNat 8)))) ∧ Below w.heap.size w w' :=
  num_at n hn k (min k.toNat 8) (by omega) (by omega) w
/-- the number as an integer; a count of bytes that is known -/
theorem num_int (x : Int) (h0 : 0 ≤ x) (h1 : x ≤ 18446744073709551615) (k : Int) (c : Nat) (hk : k = c) (hc : c ≤ 8) (w : World) :
    Calls Try.prog 100 #[.int .u64 x, .int .i64 k] w fun e w' => e = .returned (.string (str (numB x.toNat c))) ∧ Below w.heap.size w w' := by
  obtain ⟨n, rfl⟩ := Int.eq_ofNat_of_zero_le h0
  exact num_at n (by omega) k c hc (.inl hk) w
end Go.Proofs.Ytkcdeefnkbbacaa

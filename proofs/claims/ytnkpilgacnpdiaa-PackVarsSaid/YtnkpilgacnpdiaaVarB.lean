/- The contracts of pack's Var and of its reference. -/
import Derived.Test.YtnkpilgacnpdiaaVar
namespace Go.Proofs.Ytnkpilgacnpdiaa
open Go.RowKit

/-- seven bits a byte, the lowest first -/
def varF : Nat → Nat → List UInt8
  | 0, n => [UInt8.ofNat n]
  | f + 1, n => if 128 ≤ n then UInt8.ofNat (n % 128 + 128) :: varF f (n / 128) else [UInt8.ofNat n]
def varB (n : Nat) : List UInt8 := varF 9 n
theorem varF_length (f n : Nat) : (varF f n).length ≤ f + 1 := by
  induction f generalizing n with
  | zero => simp [varF]
  | succ f ih => unfold varF; split <;> simp [ih]
theorem mask127 (n : Nat) (h : n ≤ 18446744073709551615) : bits .and .u64 (n : Int) 127 = ((n % 128 : Nat) : Int) := by
  have := u64_and_nat n 127 (by omega) (by omega)
  rw [nat_mask7] at this
  exact this
theorem or128 (m : Nat) (h : m < 128) : bits .or .u8 (m : Int) 128 = (m : Int) + 128 := by
  have h1 := u8_or_nat m 128 (by omega) (by omega)
  have h2 : m ||| 128 = m + 128 := by
    have := Nat.shiftLeft_add_eq_or_of_lt (i := 7) (b := m) (by simpa using h) 1
    rw [Nat.shiftLeft_eq, Nat.or_comm] at this
    simp at this
    omega
  rw [h2] at h1
  rw [show ((m + 128 : Nat) : Int) = (m : Int) + 128 from by omega] at h1
  exact h1
theorem bcells_snoc (l : List UInt8) (x : UInt8) : bcells (l ++ [x]) = bcells l ++ [.int .u8 (x.toNat : Int)] := by simp [bcells]
theorem ofNat_toNat (m : Nat) (h : m < 256) : (UInt8.ofNat m).toNat = m := by rw [UInt8.toNat_ofNat']; exact Nat.mod_eq_of_lt h
theorem cellsAre_own {w : World} {B g n cap : Nat} {l : List UInt8} (h : w.ownsRow B 5 1 (.slice (some ⟨g, 0, none⟩) n cap) n (bcells l)) (hl : l.length = n) : CellsAre w g l := by
  intro j u hj
  have hjl : j < n := by
    have := (List.getElem?_eq_some_iff.1 hj).1
    simpa [bcells, hl] using this
  rw [h.cellAt j (by omega)]
  exact hj
def VLt (n' j : Nat) : Prop := n' < 128 ^ (10 - j)
theorem var_step (j n' : Nat) (hj : j ≤ 9) (h0 : VLt n' j) (h128 : 128 ≤ n') : j ≤ 8 ∧ VLt (n' / 128) (j + 1) ∧ varF (9 - j) n' = UInt8.ofNat (n' % 128 + 128) :: varF (9 - (j + 1)) (n' / 128) := by
  have h : n' < 128 ^ (10 - j) := h0
  have hj8 : j ≤ 8 := by
    rcases Nat.lt_or_ge j 9 with h9 | h9
    · omega
    · have e : 10 - j = 1 := by omega
      rw [e] at h
      omega
  refine ⟨hj8, ?_, ?_⟩
  · have e : 10 - j = (10 - (j + 1)) + 1 := by omega
    rw [e, Nat.pow_succ] at h
    exact Nat.div_lt_of_lt_mul (by rw [Nat.mul_comm]; exact h)
  · have e : 9 - j = (9 - (j + 1)) + 1 := by omega
    rw [e]
    show (if 128 ≤ n' then _ else _) = _
    rw [if_pos h128]
theorem var_end (j n' : Nat) (h128 : n' < 128) : varF (9 - j) n' = [UInt8.ofNat n'] := by
  cases 9 - j with
  | zero => rfl
  | succ f => show (if 128 ≤ n' then _ else _) = _; rw [if_neg (by omega)]

set_option maxRecDepth 100000 in
set_option maxHeartbeats 800000 in
theorem var_any (n : Nat) (hn : n ≤ 18446744073709551615) (w : World) :
    Calls Try.prog 14 #[.int .u64 n] w fun e w' => e = .returned (.string (str (varB n))) ∧ Below w.heap.size w w' := by
  obtain ⟨i0, hi, hz0, hz1, hz2⟩ := info_parts info_u8
  go_enter Try.func14, Try.ntmps14
  go_wp2_with (at_make; refine wpList_make_own _ rfl _ _ 43 rfl w.heap.size 5 i0 (.int .u8 0) 1 Try.underlying43 hi hz0 hz1 .i64 .i64 _ 10 rfl rfl (by omega) (by rw [hz2]; omega) (by simp only [maxLen]; omega) (Nat.le_refl _) ?_; intro w1 hown1 hg1)
  go_loopw [0, 3] (fun t o wr => ∃ (j n' : Nat) (pre : List UInt8), j ≤ 9 ∧ t = .int .u64 (n' : Nat) ∧ o = .slice (some ⟨w.heap.size, 0, none⟩) j 10 ∧ pre.length = j ∧ VLt n' j ∧ n' ≤ n ∧
      Hid (pre ++ varF (9 - j) n' = varB n) ∧ Below w.heap.size w wr ∧ wr.ownsRow w.heap.size 5 1 (.slice (some ⟨w.heap.size, 0, none⟩) j 10) j (bcells pre))
    (fun t _ _ => (intOf t).toNat)
  case atStart => exact ⟨0, n, [], by omega, rfl, rfl, rfl, (by show n < 128 ^ 10; omega), Nat.le_refl _, rfl, (Below.refl _ _).grown hg1 (Nat.le_refl _) (by simp), by simpa [bcells] using hown1⟩
  case round =>
    obtain ⟨j, n', pre, hj, rfl, rfl, hpl, hlt, hle, hpre, hbl, hown⟩ := hrel
    have Hlt := Lib.hid hlt
    have Hpl := Lib.hid hpl
    clear hlt hpl
    have hsz := hbl.size
    by_cases h128 : 128 ≤ n'
    · obtain ⟨s1, s2, s3⟩ := var_step j n' hj Hlt.out h128
      have S2 := Lib.hid s2
      have S3 := Lib.hid s3
      clear s2 s3
      have Hle := Lib.hid hle
      have e1 := mask127 n' (Nat.le_trans hle hn)
      have e2 := or128 (n' % 128) (by omega)
      rw [show ((n' % 128 : Nat) : Int) = (n' : Int) % 128 from by omega] at e2
      clear hle
      go_wp2_with (at_builtin; refine wpList_append_fits _ rfl _ _ 43 rfl w.heap.size 5 i0 1 Try.underlying43 hi hz1 w.heap.size j 10 (bcells pre) rfl (hown.alloc _) ⟨wr.heap.size, 0, none⟩ 1 1 [.int .u8 ((n' : Int) % 128 + 128)] rfl rfl (cell_one_new _ _ _) (by simp [Value.oneCell']) (by omega) ?_; intro w2 hown2 hg2)
      have R : w2.ownsRow w.heap.size 5 1 (.slice (some ⟨w.heap.size, 0, none⟩) (j + 1 : Nat) 10) (j + 1) (bcells (pre ++ [UInt8.ofNat (n' % 128 + 128)])) := by
        rw [bcells_snoc, ofNat_toNat _ (by omega)]
        exact hown2
      have hb2 : Below w.heap.size w w2 := (hbl.alloc hsz _).grown hg2 (by simp; omega) (by intro k hk; injection hk with hk; omega)
      clear hown2 hg2 hown
      go_wp2
      go_roundw
      case rel => exact ⟨j + 1, n' / 128, pre ++ [UInt8.ofNat (n' % 128 + 128)], by omega, by go_num, rfl, by simp [Hpl.out], S2.out, Nat.le_trans (Nat.div_le_self _ _) Hle.out, by show _ = _; rw [List.append_assoc, ← hpre.out, S3.out]; rfl, hb2, R⟩
      case measure => simp [intOf]; omega
    · have hx := ofNat_toNat n' (by omega)
      have Hx := Lib.hid hx
      have hfin : pre ++ [UInt8.ofNat n'] = varB n := by rw [← hpre.out, var_end j n' (by omega)]
      have Hfin := Lib.hid hfin
      have hlt : n' < 128 := by omega
      clear hx hfin
      go_wp2_with (at_builtin; refine wpList_append_fits _ rfl _ _ 43 rfl w.heap.size 5 i0 1 Try.underlying43 hi hz1 w.heap.size j 10 (bcells pre) rfl (hown.alloc _) ⟨wr.heap.size, 0, none⟩ 1 1 [.int .u8 (n' : Int)] rfl rfl (cell_one_new _ _ _) (by simp [Value.oneCell']) (by omega) ?_; intro w2 hown2 hg2)
      have R : w2.ownsRow w.heap.size 5 1 (.slice (some ⟨w.heap.size, 0, none⟩) (j + 1 : Nat) 10) (j + 1) (bcells (varB n)) := by
        rw [← Hfin.out, bcells_snoc, Hx.out]
        exact hown2
      have hb2 : Below w.heap.size w w2 := (hbl.alloc hsz _).grown hg2 (by simp; omega) (by intro k hk; injection hk with hk; omega)
      have hlen : (varB n).length = j + 1 := by rw [← Hfin.out]; simp [Hpl.out]
      have hst := (cellsAre_own R hlen).text (cap := 10) hlen
      clear hown2 hg2 hown hlen
      rw [hst]
      go_wp2
      go_ret
      exact ⟨rfl, hb2⟩

/-- '[]byte{x}' as a text -/
theorem run_byte_text (w : World) (x : Int) (h0 : 0 ≤ x) (h1 : x < 256) :
    (convert 43 9 (.slice (some ⟨w.heap.size, 0, none⟩) 1 1)).run Try.prog (w.alloc (.cells #[.int .u8 x] 5)) = .ok (.string (str [UInt8.ofNat x.toNat])) (w.alloc (.cells #[.int .u8 x] 5)) := by
  refine run_string_of _ ⟨w.heap.size, 0, none⟩ 1 1 [UInt8.ofNat x.toNat] rfl ?_
  intro j u hj
  refine cell_one_new w (.int .u8 x) 5 j u ?_
  rw [← hj]
  simp [bcells, ofNat_toNat x.toNat (by omega), Int.toNat_of_nonneg h0]

set_option maxRecDepth 100000 in
set_option maxHeartbeats 800000 in
theorem var_ref (n : Nat) (hn : n ≤ 18446744073709551615) (w : World) :
    Calls Try.prog 15 #[.int .u64 n] w fun e w' => e = .returned (.string (str (varB n))) ∧ Below w.heap.size w w' := by
  go_enter Try.func15, Try.ntmps15
  go_wp2
  go_loopw [0, 3] (fun t o wr => ∃ (j n' : Nat) (pre : List UInt8), j ≤ 9 ∧ t = .int .u64 (n' : Nat) ∧ o = .string (str pre) ∧ pre.length = j ∧ VLt n' j ∧ n' ≤ n ∧
      Hid (pre ++ varF (9 - j) n' = varB n) ∧ Below w.heap.size w wr)
    (fun t _ _ => (intOf t).toNat)
  case atStart => exact ⟨0, n, [], by omega, rfl, rfl, rfl, (by show n < 128 ^ 10; omega), Nat.le_refl _, rfl, Below.refl _ _⟩
  case round =>
    obtain ⟨j, n', pre, hj, rfl, rfl, hpl, hlt, hle, hpre, hbl⟩ := hrel
    have Hlt := Lib.hid hlt
    have Hpl := Lib.hid hpl
    have hpl' : pre.length ≤ 9 := by omega
    clear hlt hpl
    have hsz := hbl.size
    by_cases h128 : 128 ≤ n'
    · obtain ⟨s1, s2, s3⟩ := var_step j n' hj Hlt.out h128
      have S2 := Lib.hid s2
      have S3 := Lib.hid s3
      have Hle := Lib.hid hle
      clear s2 s3
      have e1 := mask127 n' (Nat.le_trans hle hn)
      have e2 := or128 (n' % 128) (by omega)
      rw [show ((n' % 128 : Nat) : Int) = (n' : Int) % 128 from by omega] at e2
      have hst := run_byte_text wr ((n' : Int) % 128 + 128) (by omega) (by omega)
      rw [show ((n' : Int) % 128 + 128).toNat = n' % 128 + 128 from by omega] at hst
      generalize UInt8.ofNat (n' % 128 + 128) = b at *
      have hb2 : Below w.heap.size w (wr.alloc (.cells #[.int .u8 ((n' : Int) % 128 + 128)] 5)) := hbl.alloc hsz _
      clear hle
      go_wp2
      go_roundw
      case rel => exact ⟨j + 1, n' / 128, pre ++ [b], by omega, by go_num, rfl, by simp [Hpl.out], S2.out, Nat.le_trans (Nat.div_le_self _ _) Hle.out, by show _ = _; rw [List.append_assoc, ← hpre.out, S3.out]; rfl, hb2⟩
      case measure => simp [intOf]; omega
    · have hfin : pre ++ [UInt8.ofNat n'] = varB n := by rw [← hpre.out, var_end j n' (by omega)]
      have Hfin := Lib.hid hfin
      have hlt : n' < 128 := by omega
      have hst := run_byte_text wr (n' : Int) (by omega) (by omega)
      rw [Int.toNat_natCast] at hst
      have hb2 : Below w.heap.size w (wr.alloc (.cells #[.int .u8 (n' : Int)] 5)) := hbl.alloc hsz _
      clear hfin
      go_wp2
      go_ret
      exact ⟨congrArg (fun l => Ending.returned (.string (str l))) Hfin.out, hb2⟩
end Go.Proofs.Ytnkpilgacnpdiaa

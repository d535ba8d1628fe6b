/- awake of the laws of hello. -/
import Derived.Test.YtildhamfnfifjaaHelloP
set_option maxRecDepth 100000
namespace Go.Proofs.Ytildhamfnfifjaa
open Go.RowKit

theorem read_more_closed (w : World) : Calls Try.prog 17 #[.string (str (helloB 3 1 2 0 0 ++ [120]))] w
    fun e w' => e = .returned (.tuple #[noHello, .int .i64 3]) ∧ Below w.heap.size w w' := by
  have e : helloB 3 1 2 0 0 ++ [120] = UInt8.ofNat 3 :: (pairB 1 2 0 0 ++ [120]) := rfl
  have hl : (pairB 1 2 0 0 ++ [120]).length = 17 := by simp [pairB_length]
  have hr : rightB (UInt8.ofNat 3).toNat (quad (pairB 1 2 0 0 ++ [120]) 0) (quad (pairB 1 2 0 0 ++ [120]) 1) = true := by decide
  rw [e]
  exact hello_more _ _ (by omega) (by omega) hr (by omega) w

@[go_sem] theorem run_hello_pair (a b c d e : Value) (w : World) : Sem.run Try.prog (Instr.field 28 (.agg #[a, b, c, d, e]) 1) w = .ok (.agg #[b, c, d, e]) w := by
  simp [Instr.field, asAgg, go_sem]

theorem right_some (w : World) : Calls Try.prog 19 #[.agg #[.int .i64 3, .int .u32 1, .int .u32 2, .int .u32 0, .int .u32 0]] w fun e w' => e = .returned (.bool true) ∧ Below w.heap.size w w' :=
  right_any 3 1 2 0 0 w
theorem right_zero (w : World) : Calls Try.prog 19 #[.agg #[.int .i64 0, .int .u32 0, .int .u32 0, .int .u32 0, .int .u32 0]] w fun e w' => e = .returned (.bool false) ∧ Below w.heap.size w w' :=
  right_any 0 0 0 0 0 w

theorem five_keep {w W W' : World} {k : Nat} {a b c d e : Value} (hb : Below W.heap.size W W') (h : Below w.heap.size w W ∧ W.cell? ⟨k, 0, none⟩ = some a ∧ W.cell? ⟨k, 1, none⟩ = some b ∧ W.cell? ⟨k, 2, none⟩ = some c ∧ W.cell? ⟨k, 3, none⟩ = some d ∧ W.cell? ⟨k, 4, none⟩ = some e) :
    Below w.heap.size w W' ∧ W'.cell? ⟨k, 0, none⟩ = some a ∧ W'.cell? ⟨k, 1, none⟩ = some b ∧ W'.cell? ⟨k, 2, none⟩ = some c ∧ W'.cell? ⟨k, 3, none⟩ = some d ∧ W'.cell? ⟨k, 4, none⟩ = some e := by
  have lt : ∀ {o : Nat} {u : Value}, W.cell? ⟨k, o, none⟩ = some u → W'.cell? ⟨k, o, none⟩ = some u := by
    intro o u hu
    have : k < W.heap.size := by
      by_cases hk : k < W.heap.size
      · exact hk
      · simp [World.cell?, Array.getElem?_eq_none (Nat.le_of_not_lt hk)] at hu
    exact ((bcell hb).1 k o this).trans hu
  exact ⟨below_step h.1 hb, lt h.2.1, lt h.2.2.1, lt h.2.2.2.1, lt h.2.2.2.2.1, lt h.2.2.2.2.2⟩

set_option maxHeartbeats 1600000 in
theorem awake_any (w : World) : Calls Try.prog 14 #[] w fun e w' => e = .returned (.bool true) ∧ Below w.heap.size w w' := by
  have HB := Lib.hid (Below.refl w.heap.size w)
  have hl : (helloB 3 1 2 0 0).length = 17 := by decide
  have hr : rightB 3 1 2 = true := by decide
  have hr16 : rightB 16 1 2 = false := by decide
  have hr0 : rightB 0 0 0 = false := by decide
  have K1 := Lib.hid (fun w => read_bytes 3 1 2 0 0 (by decide) (by decide) (by decide) (by decide) hr w)
  have K2 := Lib.hid read_more_closed
  have K3 := Lib.hid (fun w => hello_yes 3 1 2 0 0 (by decide) (by decide) (by decide) (by decide) hr w)
  generalize helloB 3 1 2 0 0 = S at *
  go_enter Try.func14, Try.ntmps14
  go_wp2_with (first
    | (go_at_call 62; have _q := R3.out.1; clear _q; refine (some_any _).mono ?_; rintro e w5 ⟨rfl, hb5⟩
       replace R3 := Lib.hid ((R3.out.under _).keep hb5)
       replace HB := Lib.hid (below_step (HB.out.alloc HB.out.size (.cells #[.int .i64 0, .int .u32 0, .int .u32 0, .int .u32 0, .int .u32 0] 28)) hb5); clear hb5)
    | (go_at_call 15; have _q := R3.out.1; clear _q; refine (hello_no 16 1 2 0 0 hr16 _).mono ?_; rintro e w6 ⟨rfl, hb6⟩; replace HB := Lib.hid (below_step HB.out hb6); replace R3 := Lib.hid (R3.out.keep hb6); clear hb6)
    | (go_at_call 62; refine (some_any _).mono ?_; rintro e w1 ⟨rfl, hb1⟩; replace HB := Lib.hid (below_step HB.out hb1); clear hb1)
    | (go_at_call 15; refine (K3.out _).mono ?_; rintro e w2 ⟨rfl, hb2⟩; replace HB := Lib.hid (below_step HB.out hb2); clear hb2)
    | (go_at_call 17; have _q := w3; clear _q; refine (K2.out _).mono ?_; rintro e w4 ⟨rfl, hb4⟩; unfold noHello
       have R3 := Lib.hid ((RowIs.new w3 #[.int .i64 3, .int .u32 1, .int .u32 2, .int .u32 0, .int .u32 0] 28).keep hb4)
       replace HB := Lib.hid (below_step (HB.out.alloc HB.out.size (.cells #[.int .i64 3, .int .u32 1, .int .u32 2, .int .u32 0, .int .u32 0] 28)) hb4); clear hb4)
    | (go_at_call 17; refine (K1.out _).mono ?_; rintro e w3 ⟨rfl, hb3⟩; replace HB := Lib.hid (below_step HB.out hb3); clear hb3))
  have S0 := Lib.hid (five_keep (Below.refl w6.heap.size w6).drew ⟨HB.out, R3.out.2.1 0 _ rfl, R3.out.2.1 1 _ rfl, R3.out.2.1 2 _ rfl, R3.out.2.1 3 _ rfl, R3.out.2.1 4 _ rfl⟩)
  have hd17 : decide ((S.length : Int) = 17) = true := by simp [hl]
  have hb17 : ((S.length : Int) == 17) = true := by simp [hl]
  clear K1 K2 K3 HB R3 hl
  go_region_held3 (fun w' => Below w.heap.size w w' ∧ w'.cell? ⟨w3.heap.size, 0, none⟩ = some (.int .i64 3) ∧ w'.cell? ⟨w3.heap.size, 1, none⟩ = some (.int .u32 1) ∧ w'.cell? ⟨w3.heap.size, 2, none⟩ = some (.int .u32 2) ∧ w'.cell? ⟨w3.heap.size, 3, none⟩ = some (.int .u32 0) ∧ w'.cell? ⟨w3.heap.size, 4, none⟩ = some (.int .u32 0))
    (first | exact five_keep hb9 (show Below w.heap.size w w8 ∧ w8.cell? ⟨w3.heap.size, 0, none⟩ = some (.int .i64 3) ∧ w8.cell? ⟨w3.heap.size, 1, none⟩ = some (.int .u32 1) ∧ w8.cell? ⟨w3.heap.size, 2, none⟩ = some (.int .u32 2) ∧ w8.cell? ⟨w3.heap.size, 3, none⟩ = some (.int .u32 0) ∧ w8.cell? ⟨w3.heap.size, 4, none⟩ = some (.int .u32 0) from by assumption) | exact five_keep hb8 (show Below w.heap.size w w7 ∧ w7.cell? ⟨w3.heap.size, 0, none⟩ = some (.int .i64 3) ∧ w7.cell? ⟨w3.heap.size, 1, none⟩ = some (.int .u32 1) ∧ w7.cell? ⟨w3.heap.size, 2, none⟩ = some (.int .u32 2) ∧ w7.cell? ⟨w3.heap.size, 3, none⟩ = some (.int .u32 0) ∧ w7.cell? ⟨w3.heap.size, 4, none⟩ = some (.int .u32 0) from by assumption) | exact five_keep hb7 ‹_› | exact S0.out)
    (first
    | (go_at_call 62; refine (some_any _).mono ?_; rintro e w7 ⟨rfl, hb7⟩)
    | (go_at_call 19; have _q := w8; clear _q; refine (right_zero _).mono ?_; rintro e w9 ⟨rfl, hb9⟩)
    | (go_at_call 19; refine (right_some _).mono ?_; rintro e w8 ⟨rfl, hb8⟩))
  rename_i hh
  have HE := Lib.hid hh.1
  clear hh
  go_wp2
  go_ret
  exact ⟨rfl, HE.out⟩
end Go.Proofs.Ytildhamfnfifjaa

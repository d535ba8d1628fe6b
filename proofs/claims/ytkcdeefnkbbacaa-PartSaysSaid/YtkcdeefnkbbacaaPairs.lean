/- The contracts of epoch.Bytes and epoch.Read, for every input. -/
import Derived.Test.YtkcdeefnkbbacaaPackA
import Derived.Deep.RegionHeld3
import Derived.Deep.DeepCutAuto
set_option maxRecDepth 100000
namespace Go.Proofs.Ytkcdeefnkbbacaa
open Go.RowKit

/-- block g holds the cells l and none of them is frozen -/
def RowIs (w : World) (g : Nat) (l : List Value) : Prop :=
  g < w.heap.size ∧ (∀ j u, l[j]? = some u → w.cell? ⟨g, j, none⟩ = some u) ∧ ∀ j, j < l.length → w.frozen? ⟨g, j, none⟩ = false
theorem RowIs.keep {w w' : World} {g : Nat} {l : List Value} (h : RowIs w g l) (hb : Below w.heap.size w w') : RowIs w' g l :=
  ⟨Nat.lt_of_lt_of_le h.1 hb.size, fun j u hj => ((bcell hb).1 g j h.1).trans (h.2.1 j u hj), fun j hj => ((bcell hb).2 g j h.1).trans (h.2.2 j hj)⟩
theorem RowIs.store {w : World} {g : Nat} {l : List Value} (h : RowIs w g l) (k : Nat) (v : Value) (hk : k < l.length) : RowIs (w.setCell ⟨g, k, none⟩ v) g (l.set k v) := by
  refine ⟨by simpa using h.1, fun j u hj => ?_, fun j hj => ?_⟩
  · by_cases hkj : k = j
    · subst hkj
      have h0 := h.2.1 k _ (List.getElem?_eq_getElem hk)
      rw [World.cell?_setCell_same (h := h0)]
      simp [hk] at hj
      rw [hj]
    · rw [World.cell?_setCell_other _ _ _ _ (by intro e; injection e with _ e2; exact hkj e2)]
      exact h.2.1 j u (by simpa [hkj] using hj)
  · have := h.2.2 j (by simpa using hj)
    simpa [go_sem] using this

/-- two cells of a block stay -/
theorem pair_keep {g : Nat} {a b : Value} {W W' : World} (hb : Below W.heap.size W W') (h : g < W.heap.size ∧ W.cell? ⟨g, 0, none⟩ = some a ∧ W.cell? ⟨g, 1, none⟩ = some b) :
    g < W'.heap.size ∧ W'.cell? ⟨g, 0, none⟩ = some a ∧ W'.cell? ⟨g, 1, none⟩ = some b :=
  ⟨Nat.lt_of_lt_of_le h.1 hb.size, ((bcell hb).1 g 0 h.1).trans h.2.1, ((bcell hb).1 g 1 h.1).trans h.2.2⟩

theorem pair_keepB {w : World} {g : Nat} {a b : Value} {W W' : World} (hb : Below W.heap.size W W') (h : Below w.heap.size w W ∧ g < W.heap.size ∧ W.cell? ⟨g, 0, none⟩ = some a ∧ W.cell? ⟨g, 1, none⟩ = some b) :
    Below w.heap.size w W' ∧ g < W'.heap.size ∧ W'.cell? ⟨g, 0, none⟩ = some a ∧ W'.cell? ⟨g, 1, none⟩ = some b :=
  ⟨below_step h.1 hb, pair_keep hb h.2⟩

/-- the four numbers' bytes -/
def pairB (a b c d : Nat) : List UInt8 := (numB a 4 ++ numB b 4) ++ (numB c 4 ++ numB d 4)
theorem pairB_length (a b c d : Nat) : (pairB a b c d).length = 16 := by simp [pairB, numB_length]

@[go_sem] theorem run_pair_at0 (a b c d : Value) (w : World) : Sem.run Try.prog (Instr.index 160 (.agg #[a, b, c, d]) (.int .i64 0)) w = .ok (.agg #[a, b]) w := by
  simp [Instr.index, go_sem]
@[go_sem] theorem run_pair_at1 (a b c d : Value) (w : World) : Sem.run Try.prog (Instr.index 160 (.agg #[a, b, c, d]) (.int .i64 1)) w = .ok (.agg #[c, d]) w := by
  simp [Instr.index, go_sem]

def pairRel (w : World) (a b c d : Nat) (s i : Value) (wr : World) : Prop :=
  (i = .int .i64 0 ∧ s = .string (str []) ∨ i = .int .i64 1 ∧ s = .string (str (numB a 4 ++ numB b 4)) ∨ i = .int .i64 2 ∧ s = .string (str (pairB a b c d))) ∧ Below w.heap.size w wr

set_option maxHeartbeats 1600000 in
theorem pair_bytes (a b c d : Nat) (ha : a ≤ 4294967295) (hb : b ≤ 4294967295) (hc : c ≤ 4294967295) (hd : d ≤ 4294967295) (w : World) :
    Calls Try.prog 79 #[.agg #[.int .u32 a, .int .u32 b, .int .u32 c, .int .u32 d]] w
      fun e w' => e = .returned (.string (str (pairB a b c d))) ∧ Below w.heap.size w w' := by
  have HB0 := Lib.hid ((Below.refl w.heap.size w).alloc (Nat.le_refl _) (.cells #[.int .u32 a, .int .u32 b, .int .u32 c, .int .u32 d] 26))
  have s1 : ¬ 9223372036854775807 < (numB a 4).length + (numB b 4).length := by simp [numB_length]
  have s2 : ¬ 9223372036854775807 < (numB c 4).length + (numB d 4).length := by simp [numB_length]
  have s3 : ¬ 9223372036854775807 < (numB a 4).length + ((numB b 4).length + ((numB c 4).length + (numB d 4).length)) := by simp [numB_length]
  have s4 : ¬ 9223372036854775807 < (numB a 4).length + (numB b 4).length + ((numB c 4).length + (numB d 4).length) := by simp [numB_length]
  go_enter Try.func79, Try.ntmps79
  go_wp2
  go_loopw [3, 11] (fun s i wr => pairRel w a b c d s i wr)
    (fun _ i _ => (2 - intOf i).toNat)
  case atStart => exact ⟨.inl ⟨rfl, rfl⟩, HB0.out⟩
  case round =>
    obtain ⟨hcase, hbl⟩ := hrel
    have HBR := Lib.hid hbl
    clear hbl
    have wa : IntKind.u64.wrap (a : Int) = (a : Int) := IntWalk.u64_in _ ⟨by omega, by omega⟩
    have wb : IntKind.u64.wrap (b : Int) = (b : Int) := IntWalk.u64_in _ ⟨by omega, by omega⟩
    have wc : IntKind.u64.wrap (c : Int) = (c : Int) := IntWalk.u64_in _ ⟨by omega, by omega⟩
    have wd : IntKind.u64.wrap (d : Int) = (d : Int) := IntWalk.u64_in _ ⟨by omega, by omega⟩
    have na : (a : Int) ≤ 4294967295 := by omega
    have nb : (b : Int) ≤ 4294967295 := by omega
    have nc : (c : Int) ≤ 4294967295 := by omega
    have nd : (d : Int) ≤ 4294967295 := by omega
    rcases hcase with ⟨rfl, rfl⟩ | ⟨rfl, rfl⟩ | ⟨rfl, rfl⟩
    · have HA := Lib.hid ((HBR.out.alloc HBR.out.size (.cells #[.int .u32 (a : Int), .int .u32 (b : Int)] 24)).drew)
      go_wp2_with (fail)
      go_region_held3 (fun w' => Below w.heap.size w w' ∧ wr.heap.size < w'.heap.size ∧ w'.cell? ⟨wr.heap.size, 0, none⟩ = some (.int .u32 a) ∧ w'.cell? ⟨wr.heap.size, 1, none⟩ = some (.int .u32 b))
        (first | exact pair_keepB hb1 ‹_› | (refine ⟨HA.out, ?_⟩; simp [go_sem]))
        (first
        | (go_at_call 100; refine (num_int _ (by omega) (by omega) 4 4 rfl (by omega) _).mono ?_; rintro e w1 ⟨rfl, hb1⟩))
      rename_i hh
      replace HBR := Lib.hid hh.1
      clear hh hb1 HA
      go_wp2
      go_roundw
      case rel =>
        (repeat apply Exists.intro)
        exact ⟨⟨.inr (.inl ⟨rfl, rfl⟩), HBR.out⟩, rfl⟩
      case measure => simp [intOf]
    · have HA := Lib.hid ((HBR.out.alloc HBR.out.size (.cells #[.int .u32 (c : Int), .int .u32 (d : Int)] 24)).drew)
      go_wp2_with (fail)
      go_region_held3 (fun w' => Below w.heap.size w w' ∧ wr.heap.size < w'.heap.size ∧ w'.cell? ⟨wr.heap.size, 0, none⟩ = some (.int .u32 c) ∧ w'.cell? ⟨wr.heap.size, 1, none⟩ = some (.int .u32 d))
        (first | exact pair_keepB hb1 ‹_› | (refine ⟨HA.out, ?_⟩; simp [go_sem]))
        (first
        | (go_at_call 100; refine (num_int _ (by omega) (by omega) 4 4 rfl (by omega) _).mono ?_; rintro e w1 ⟨rfl, hb1⟩))
      rename_i hh
      replace HBR := Lib.hid hh.1
      clear hh hb1 HA
      go_wp2
      go_roundw
      case rel =>
        (repeat apply Exists.intro)
        exact ⟨⟨.inr (.inr ⟨rfl, rfl⟩), HBR.out⟩, rfl⟩
      case measure => simp [intOf]
    · go_wp2
      go_ret
      exact ⟨rfl, HBR.out⟩
end Go.Proofs.Ytkcdeefnkbbacaa

/- slices.Grow of the nil slice: memory of the call's own, no element. (The fields are what the kit's laying gives at this dump.) -/
import Derived.Shelf.Spec.SlicesGrow
import Derived.Test.YtkcdeefnkbbacaaW07
set_option maxRecDepth 100000
namespace Go.Proofs.Ytkcdeefnkbbacaa
open Go.RowKit Go.Shelf
def growRen : Ren := ⟨fun | 4 => 134 | n => n, fun | 22 => 37 | 25 => 120 | 3 => 3 | 4 => 4 | 9 => 9 | 20 => 20 | 0 => 0 | n => n, fun | n => n⟩
theorem growL : Lays8.n4 Try.prog growRen := {
  mixed := by kernel_rfl
  f4 := ⟨Try.f134.name, by decide, Try.func134.trans (congrArg some (by kernel_rfl))⟩
  t0 := Try.underlying0
  a0 := Try.isAgg0
  z0 := Try.sizeOf0
  v0 := Try.zeroValue0
  t3 := Try.underlying3
  a3 := Try.isAgg3
  z3 := Try.sizeOf3
  v3 := Try.zeroValue3
  t4 := Try.underlying4
  a4 := Try.isAgg4
  z4 := Try.sizeOf4
  v4 := Try.zeroValue4
  t9 := Try.underlying9
  a9 := Try.isAgg9
  z9 := Try.sizeOf9
  v9 := Try.zeroValue9
  t20 := Try.underlying20
  a20 := Try.isAgg20
  z20 := Try.sizeOf20
  v20 := Try.zeroValue20
  t22 := Try.underlying37
  a22 := Try.isAgg37
  z22 := Try.sizeOf37
  v22 := Try.zeroValue37 }
theorem info120 : (Try.prog.info? 120).map (fun i => (i.zero, i.size, i.bytes)) = some (some (.agg #[.int .i64 0, .int .i64 0, .int .u32 0, .int .i64 0]), 4, 32) := by kernel_rfl
theorem rd_own0 (I : Cells) (w : World) (base : Option Addr) (cap : Nat) (h : cap ≤ maxLen) : Rd I w (.sl .own 4 []) (.slice base 0 cap) :=
  .sl .own 4 [] base cap (fun _ _ => .int .i64 0) (Nat.zero_le _) h (by simp) (by simp) (by simp) (fun h => absurd rfl h) (fun j k x c hj _ => by simp at hj)
theorem grow_good (n : Nat) (hn : n ≤ 100000) : Good Try.prog 134 [.sl .nil 4 [], .int .i64 (n : Int)] (.sl .own 4 []) := by
  refine ⟨fun w I vs hI ha => ?_⟩
  obtain ⟨u, v, rfl, hu, hv⟩ := args2 ha
  obtain rfl := rdv_int hv
  have hnil : u = .slice none 0 0 := by
    cases hu with
    | sl p es xs base cap u hcap hmax hclip hnil hes hb hr =>
      obtain ⟨rfl, rfl⟩ := hnil rfl
      rfl
  subst hnil
  by_cases h0 : n = 0
  · subst h0
    refine (Any8.slices_Grow_room growL none 0 0 0 w (Nat.le_refl _) (by omega) (by omega) (by omega)).mono ?_
    rintro e w' ⟨rfl, rfl⟩
    exact ⟨_, ⟨w'.heap.size, I, fun _ => .none, fun _ => 0⟩, rfl, Below.refl _ _, rfl, fun b o _ => Iff.rfl, hI, rd_own0 _ _ _ _ (by simp [maxLen]), fun es xs he => .inl rfl⟩
  · obtain ⟨i0, hi, hp⟩ := Option.map_eq_some_iff.1 info120
    injection hp with hz0 hp
    injection hp with hz1 hz2
    refine (Any8.slices_Grow_grow growL i0 _ hi hz0 (by omega) none 0 0 n [] w (Nat.le_refl _) (by omega) (by rw [hz2]; omega) (by omega) (by simp) (fun _ => rfl) (fun a h => by cases h)).mono ?_
    rintro e w' ⟨rfl, rfl⟩
    have hge := grownCap_ge w (0 + n) 0 (growRen.t 25)
    have hle := grownCap_le_maxLen w (0 + n) 0 (growRen.t 25) (by unfold maxLen; omega)
    have hb : Below w.heap.size w (w.drew.alloc (.cells (([] : List Value).toArray ++ Builtin.zeroCells (Value.agg #[.int .i64 0, .int .i64 0, .int .u32 0, .int .i64 0]).cells (0 + n - 0) ++ Builtin.zeroCells (Value.agg #[.int .i64 0, .int .i64 0, .int .u32 0, .int .i64 0]).cells (grownCap w (0 + n) 0 (growRen.t 25) - (0 + n))) (growRen.t 25))) := (Below.refl _ _).drew.alloc (Nat.le_refl _) _
    refine ⟨_, ⟨w.heap.size, I, fun _ => .res 0, fun _ => 0⟩, rfl, hb, rfl, fun b o _ => Iff.rfl, fun b o hi => ?_, rd_own0 _ _ _ _ hle, fun es xs he => ?_⟩
    · obtain ⟨v, hv⟩ := hI b o hi
      exact ⟨v, (cell?_of_heap (hb.block b (block_lt_of_cell hv)) o).trans hv⟩
    · cases he
      refine .inr ⟨w.heap.size, _, _, _, rfl, Nat.le_refl _, rfl, heap_alloc_new w.drew _, ?_, fun o => ⟨fun hi => ?_, fun h => absurd h (by simp)⟩⟩
      · rw [Nat.zero_add] at hge
        simp [size_zeroCells, Value.cells]
        omega
      · obtain ⟨v, hv⟩ := hI _ o hi
        exact absurd (block_lt_of_cell hv) (Nat.lt_irrefl _)
end Go.Proofs.Ytkcdeefnkbbacaa

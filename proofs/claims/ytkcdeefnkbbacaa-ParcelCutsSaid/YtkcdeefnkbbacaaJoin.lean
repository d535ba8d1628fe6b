/- The contract of parcel.Join. -/
import Derived.Test.YtkcdeefnkbbacaaW10d
import Derived.Test.YtkcdeefnkbbacaaAll
set_option maxRecDepth 100000
namespace Go.Proofs.Ytkcdeefnkbbacaa
open Go.RowKit

theorem rows_cap {I : Cells} {w : World} {es : Nat} {xs : List (List AV)} {v : Value} (h0 : ¬ es = 0) (h : Rd I w (.sl .sh es xs) v) : (xs = [] ∧ ∃ base cap, v = .slice base 0 cap) ∨ ∃ g o cap, v = .slice (some ⟨g, o, none⟩) xs.length cap ∧ g < w.heap.size ∧ xs.length ≤ cap ∧
    ∀ (j k : Nat) x c, xs[j]? = some x → x[k]? = some c → ∃ u, w.cell? ⟨g, o + (j * es + k), none⟩ = some u ∧ Rd I w c u := by
  cases h with
  | sl p es xs base cap u hcap hmax hclip hnil hes hb hr =>
    cases xs with
    | nil => exact .inl ⟨rfl, base, cap, rfl⟩
    | cons y ys =>
      obtain ⟨g, o, rfl, hc⟩ := hb (by simp)
      · obtain ⟨c, cs, rfl⟩ := List.exists_cons_of_ne_nil (show y ≠ [] by rintro rfl; exact h0 (hes [] (by simp)).symm)
        exact .inr ⟨g, o, cap, rfl, block_lt_of_cell (hc 0 0 _ _ rfl rfl).2.1, hcap, fun j k x c hj hk => ⟨_, (hc j k x c hj hk).2.1, hr j k x c hj hk⟩⟩
/-- the rows lie there -/
def ParsAt (w : World) (g o : Nat) (l : List Pk) : Prop := ∀ (j : Nat) x, l[j]? = some x → w.cell? ⟨g, o + j * 9, none⟩ = some (.int .i64 x.1) ∧ w.cell? ⟨g, o + j * 9 + 1, none⟩ = some (.int .u32 x.2.1) ∧ w.cell? ⟨g, o + j * 9 + 2, none⟩ = some (.int .u32 x.2.2.1) ∧ w.cell? ⟨g, o + j * 9 + 3, none⟩ = some (.int .u32 x.2.2.2.1) ∧ w.cell? ⟨g, o + j * 9 + 4, none⟩ = some (.int .u32 x.2.2.2.2.1) ∧ w.cell? ⟨g, o + j * 9 + 5, none⟩ = some (.int .i64 x.2.2.2.2.2.1) ∧ w.cell? ⟨g, o + j * 9 + 6, none⟩ = some (.int .i64 x.2.2.2.2.2.2.1) ∧ w.cell? ⟨g, o + j * 9 + 7, none⟩ = some (.int .i64 x.2.2.2.2.2.2.2.1) ∧ w.cell? ⟨g, o + j * 9 + 8, none⟩ = some (.string (str x.2.2.2.2.2.2.2.2))
theorem ParsAt.keep {w w' : World} {g o : Nat} {l : List Pk} (h : ParsAt w g o l) (hg : g < w.heap.size) (hb : Below w.heap.size w w') : ParsAt w' g o l := fun j x hx => by
  have hc : ∀ q, w'.cell? ⟨g, q, none⟩ = w.cell? ⟨g, q, none⟩ := fun q => cell?_of_heap (hb.block g hg) q
  obtain ⟨d0, d1, d2, d3, d4, d5, d6, d7, d8⟩ := h j x hx
  exact ⟨(hc _).trans d0, (hc _).trans d1, (hc _).trans d2, (hc _).trans d3, (hc _).trans d4, (hc _).trans d5, (hc _).trans d6, (hc _).trans d7, (hc _).trans d8⟩
theorem min64 (n : Nat) : min ((n : Nat) : Int) 64 = ((min n 64 : Nat) : Int) := by omega
set_option maxHeartbeats 4000000 in
theorem join_walk (l : List Pk) (src : Int) (g o cap : Nat) (w : World) (hg : g < w.heap.size) (hl : l.length ≤ 1000) (hcap : l.length ≤ cap) (hb : ∀ x ∈ l, x.2.2.2.2.2.2.2.2.length ≤ 500) (hr : ParsAt w g o l) :
    Calls Try.prog 52 #[.slice (some ⟨g, o, none⟩) l.length cap, .int .i64 src] w fun e w' => e = .returned (.string (str (jn (l.take 64) src))) ∧ Below w.heap.size w w' := by
  have hmm := min64 l.length
  have hle : min l.length 64 ≤ l.length := Nat.min_le_left _ _
  have hm6 : min l.length 64 ≤ 64 := Nat.min_le_right _ _
  have htk : l.take (min l.length 64) = l.take 64 := by rw [List.take_eq_take_iff]; omega
  generalize min l.length 64 = m at hmm hle htk hm6
  have hend : j64 l m src = jn (l.take 64) src := by unfold j64; rw [htk, List.take_take]; rfl
  go_enter Try.func52, Try.ntmps52
  go_wp2
  go_loopw [7, 14] (fun _ i wr => ∃ (j : Nat), i = .int .i64 j ∧ j ≤ m ∧ Below w.heap.size w wr ∧ w.heap.size < wr.heap.size ∧ IsBld w.heap.size w.heap.size (j64 l j src) wr) (fun _ i _ => m - (intOf i).toNat)
  case atStart => exact ⟨0, rfl, Nat.zero_le _, alloc_below w _, by simp, Lib.fresh_isBuilder _ _ w⟩
  case round =>
    obtain ⟨j, rfl, hj, hbl, hsz, hI⟩ := hrel
    have hjl := j64_len hb (src := src) j
    by_cases hlt : j < m
    · have hx : l[j]? = some l[j] := List.getElem?_eq_getElem (by omega)
      generalize l[j] = x at hx
      have hxb := hb x (List.mem_of_getElem? hx)
      obtain ⟨c0, c1, c2, c3, c4, c5, c6, c7, c8⟩ := hr.keep hg hbl j x hx
      by_cases h1 : x.2.2.2.2.2.1 = src
      · have hst := j64_y hx h1 (by omega)
        go_wp2_with (go_at_call 96; refine (bld_write w.heap.size w.heap.size (j64 l j src) x.2.2.2.2.2.2.2.2 _ (hI.keep (alloc_below wr _)) (by omega) (by simp; omega)).mono ?_; rintro e w3 ⟨rfl, hI3, hb3⟩)
        refine ⟨⟨_, _, _, _, _, _, _, _, _, _, _, _, _, ?rel, rfl⟩, ?measure⟩
        case rel => exact ⟨j + 1, rfl, by omega, (hbl.trans ((alloc_below wr _).mono (by omega))).trans hb3, by have h3 := hb3.size; simp at h3; omega, by rw [← hst]; exact hI3⟩
        case measure => simp [intOf]; omega
      · have hst := j64_n hx (fun e => h1 e.1)
        go_wp2
        go_roundw
        case rel => exact ⟨j + 1, rfl, by omega, hbl.trans ((alloc_below wr _).mono (by omega)), by simp; omega, by rw [← hst]; exact hI.keep (alloc_below wr _)⟩
        case measure => simp [intOf]; omega
    · obtain rfl : j = m := by omega
      go_wp2_with (go_at_call 97; refine (Try.Builder_String_any w.heap.size w.heap.size (j64 l j src) _ hI (by omega)).mono ?_; rintro e w2 ⟨rfl, hb2⟩)
      go_ret
      exact ⟨by rw [← hend]; rfl, hbl.trans hb2⟩
set_option maxHeartbeats 4000000 in
theorem join_nil (src : Int) (base : Option Addr) (cap : Nat) (w : World) :
    Calls Try.prog 52 #[.slice base 0 cap, .int .i64 src] w fun e w' => e = .returned (.string (str [])) ∧ Below w.heap.size w w' := by
  have hI := Lib.fresh_isBuilder 128 5 w
  go_enter Try.func52, Try.ntmps52
  go_wp2
  go_loopw [7, 14] (fun _ i wr => i = .int .i64 0 ∧ Below w.heap.size w wr ∧ w.heap.size < wr.heap.size ∧ IsBld w.heap.size w.heap.size [] wr) (fun _ i _ => 0)
  case atStart => exact ⟨rfl, alloc_below w _, by simp, hI⟩
  case round =>
    obtain ⟨rfl, hbl, hsz, hI⟩ := hrel
    go_wp2_with (go_at_call 97; refine (Try.Builder_String_any w.heap.size w.heap.size [] _ hI (by omega)).mono ?_; rintro e w2 ⟨rfl, hb2⟩)
    go_ret
    exact ⟨rfl, hbl.trans hb2⟩
theorem join_good (l : List Pk) (src : Int) (hl : l.length ≤ 1000) (hb : ∀ x ∈ l, x.2.2.2.2.2.2.2.2.length ≤ 500) : Good Try.prog 52 [.sl .sh 9 (l.map pr), .int .i64 src] (.str (jn (l.take 64) src)) := by
  have hjl : (jn (l.take 64) src).length ≤ 500 * 64 := by
    have := j64_len hb (src := src) 64
    unfold j64 at this
    rw [List.take_take] at this
    exact this
  refine .of_calls (u := .string (str (jn (l.take 64) src))) (fun g w => res_rd (.str _ (by unfold maxLen; omega)) (by simp) (by simp)) fun w I vs h => ?_
  obtain ⟨u, v, rfl, hu, hv⟩ := args2 h
  obtain rfl := rdv_int hv
  rcases rows_cap (by omega) hu with ⟨he, base, cap, rfl⟩ | ⟨g, o, cap, rfl, hg, hcap, hc⟩
  · obtain rfl : l = [] := List.map_eq_nil_iff.1 he
    exact join_nil src base cap w
  · rw [List.length_map] at hcap ⊢
    refine join_walk l src g o cap w hg hl hcap hb fun j x hx => ?_
    have hj : (l.map pr)[j]? = some (pr x) := by rw [List.getElem?_map, hx]; rfl
    obtain ⟨u0, e0, r0⟩ := hc j 0 _ _ hj rfl
    obtain ⟨u1, e1, r1⟩ := hc j 1 _ _ hj rfl
    obtain ⟨u2, e2, r2⟩ := hc j 2 _ _ hj rfl
    obtain ⟨u3, e3, r3⟩ := hc j 3 _ _ hj rfl
    obtain ⟨u4, e4, r4⟩ := hc j 4 _ _ hj rfl
    obtain ⟨u5, e5, r5⟩ := hc j 5 _ _ hj rfl
    obtain ⟨u6, e6, r6⟩ := hc j 6 _ _ hj rfl
    obtain ⟨u7, e7, r7⟩ := hc j 7 _ _ hj rfl
    obtain ⟨u8, e8, r8⟩ := hc j 8 _ _ hj rfl
    obtain rfl := rdv_int r0
    obtain rfl := rdv_int r1
    obtain rfl := rdv_int r2
    obtain rfl := rdv_int r3
    obtain rfl := rdv_int r4
    obtain rfl := rdv_int r5
    obtain rfl := rdv_int r6
    obtain rfl := rdv_int r7
    obtain ⟨rfl, _⟩ := rdv_str r8
    refine ⟨e0, ?_, ?_, ?_, ?_, ?_, ?_, ?_, ?_⟩ <;> (rw [Nat.add_assoc]; assumption)
end Go.Proofs.Ytkcdeefnkbbacaa

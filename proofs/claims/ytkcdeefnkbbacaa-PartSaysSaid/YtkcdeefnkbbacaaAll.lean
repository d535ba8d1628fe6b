/- The contract of item.All. -/
import Derived.Test.YtkcdeefnkbbacaaW07
import Derived.Test.YtkcdeefnkbbacaaBld
set_option maxRecDepth 100000
namespace Go.Proofs.Ytkcdeefnkbbacaa
open Go.RowKit

theorem ownsRow_keep {w w' : World} {B : Nat} {e : TypeId} {k : Nat} {v : Value} {n : Nat} {xs : List Value} (h : w.ownsRow B e k v n xs) (hb : ∀ j, j < w.heap.size → w'.heap[j]? = w.heap[j]?) : w'.ownsRow B e k v n xs := by
  refine ⟨h.1, ?_⟩
  rcases h.2 with h | ⟨g, cap, cur, hv, hB, hg, r⟩
  · exact .inl h
  · exact .inr ⟨g, cap, cur, hv, hB, (hb g (heap_lt hg)).trans hg, r⟩
theorem IsBld.keep {B b : Nat} {s : By} {w w' : World} (h : IsBld B b s w) (hb : Below w.heap.size w w') : IsBld B b s w' := by
  rcases h with h | h
  · obtain ⟨h1, v, h2, h3, h4⟩ := h
    exact .inl ⟨h1, v, (hb.block _ (heap_lt h2)).trans h2, ownsRow_keep h3 hb.block, h4⟩
  · obtain ⟨h1, v, h2, h3, h4⟩ := h
    exact .inr ⟨h1, v, (hb.block _ (heap_lt h2)).trans h2, ownsRow_keep h3 hb.block, h4⟩
/-- a call of plain arguments with a plain result -/
theorem flat_call {f : FuncId} {args : List AV} {r : AV} {vs : Array Value} {u : Value} (h : Good Try.prog f args r) (w : World) (ha : ArgsR (fun _ _ => False) w args vs.toList) (hr : ∀ g w v, ResR g w r v → v = u) :
    Calls Try.prog f vs w fun e w' => e = .returned u ∧ Below w.heap.size w w' := by
  have := h.out w (fun _ _ => False) vs.toList (fun _ _ h => h.elim) ha
  refine this.mono fun e w' ⟨v, g', he, hb, _, _, _, hres⟩ => ⟨?_, hb⟩
  rw [he, hr _ _ _ hres]
theorem ibytes_call (x : It) (hd : u32b x.2.2.1) (w : World) : Calls Try.prog 93 #[.agg #[.int .i64 x.1, .int .i64 x.2.1, .int .u32 x.2.2.1, .int .i64 x.2.2.2]] w fun e w' => e = .returned (.tuple #[.string (str (ibR x).1), .int .i64 (ibR x).2]) ∧ Below w.heap.size w w' := by
  refine flat_call (ibytes_good x hd) w ⟨rfl, fun i c u hc hu => ?_⟩ fun g w v hv => ?_
  · match i with
    | 0 =>
      cases hc; cases hu
      refine .agg _ [.int .i64 x.1, .int .i64 x.2.1, .int .u32 x.2.2.1, .int .i64 x.2.2.2] rfl (by intro v hv; simp at hv; rcases hv with rfl | rfl | rfl | rfl <;> rfl) fun k c v hc hv => ?_
      match k with
      | 0 => cases hc; cases hv; exact .int _ _
      | 1 => cases hc; cases hv; exact .int _ _
      | 2 => cases hc; cases hv; exact .int _ _
      | 3 => cases hc; cases hv; exact .int _ _
      | k + 4 => cases hc
    | i + 1 => cases hc
  · obtain ⟨us, rfl, hl, hk⟩ := hv
    match us, hl with
    | [a, b], _ =>
      obtain ⟨rfl, _⟩ := rdv_str (hk 0 _ _ rfl rfl).rd
      obtain rfl := rdv_int (hk 1 _ _ rfl rfl).rd
      rfl
/-- the rows lie there -/
def RowsAt (w : World) (g o : Nat) (l : List It) : Prop := ∀ (j : Nat) x, l[j]? = some x → w.cell? ⟨g, o + j * 4, none⟩ = some (.int .i64 x.1) ∧ w.cell? ⟨g, o + j * 4 + 1, none⟩ = some (.int .i64 x.2.1) ∧ w.cell? ⟨g, o + j * 4 + 2, none⟩ = some (.int .u32 x.2.2.1) ∧ w.cell? ⟨g, o + j * 4 + 3, none⟩ = some (.int .i64 x.2.2.2)
theorem alloc_below (w : World) (o : Obj) : Below w.heap.size w (w.alloc o) := (Below.refl _ _).alloc (Nat.le_refl _) o
theorem RowsAt.keep {w w' : World} {g o : Nat} {l : List It} (h : RowsAt w g o l) (hg : g < w.heap.size) (hb : Below w.heap.size w w') : RowsAt w' g o l := fun j x hx => by
  have hc : ∀ q, w'.cell? ⟨g, q, none⟩ = w.cell? ⟨g, q, none⟩ := fun q => cell?_of_heap (hb.block g hg) q
  obtain ⟨d0, d1, d2, d3⟩ := h j x hx
  exact ⟨(hc _).trans d0, (hc _).trans d1, (hc _).trans d2, (hc _).trans d3⟩
set_option maxHeartbeats 4000000 in
theorem all_walk (l : List It) (g o cap : Nat) (w : World) (hg : g < w.heap.size) (hl : l.length ≤ 1000000) (hd : ∀ x ∈ l, u32b x.2.2.1) (hr : RowsAt w g o l) :
    Calls Try.prog 23 #[.slice (some ⟨g, o, none⟩) l.length cap] w fun e w' => e = .returned (.tuple #[.string (str (all l).1), .int .i64 (all l).2]) ∧ Below w.heap.size w w' := by
  go_enter Try.func23, Try.ntmps23
  go_wp2
  go_loopw [5, 6, 7, 8, 11] (fun _ _ _ _ i wr => ∃ (j : Nat) (acc : By), i = .int .i64 j ∧ j ≤ l.length ∧ acc.length ≤ 6 * j ∧ Below w.heap.size w wr ∧ w.heap.size < wr.heap.size ∧ IsBld w.heap.size w.heap.size acc wr ∧ allR j (l.drop j) acc = all l) (fun _ _ _ _ i _ => l.length - (intOf i).toNat)
  case atStart => exact ⟨0, [], rfl, Nat.zero_le _, Nat.le_refl _, alloc_below w _, by simp, Lib.fresh_isBuilder _ _ w, rfl⟩
  case round =>
    obtain ⟨j, acc, rfl, hj, hal, hbl, hsz, hI, hall⟩ := hrel
    by_cases hlt : j < l.length
    · have hx : l[j]? = some l[j] := List.getElem?_eq_getElem hlt
      generalize l[j] = x at hx
      have hdx := hd x (List.mem_of_getElem? hx)
      obtain ⟨c0, c1, c2, c3⟩ := hr.keep hg hbl j x hx
      have hlen := ibR_len x
      by_cases h1 : (ibR x).2 = 0
      · by_cases h2 : 48 ≤ j
        · have e := all_long hx hall h1 h2
          go_wp2_with (go_at_call 93; refine (ibytes_call x hdx _).mono ?_; rintro e w2 ⟨rfl, hb2⟩)
          go_ret2
          exact ⟨by rw [e]; rfl, (hbl.trans ((alloc_below wr _).mono (by omega))).trans (hb2.mono (by simp; omega))⟩
        · have hst := all_step hx hall h1 h2
          go_wp2_with (first
            | (go_at_call 93; refine (ibytes_call x hdx _).mono ?_; rintro e w2 ⟨rfl, hb2⟩)
            | (go_at_call 96; refine (bld_write w.heap.size w.heap.size acc (ibR x).1 _ ((hI.keep (alloc_below wr _)).keep hb2) (by omega) (by have := hb2.size; simp at this; omega)).mono ?_; rintro e w3 ⟨rfl, hI3, hb3⟩))
          go_roundw
          case rel => exact ⟨j + 1, acc ++ (ibR x).1, rfl, by omega, by simp; omega, ((hbl.trans ((alloc_below wr _).mono (by omega))).trans (hb2.mono (by simp; omega))).trans hb3, by have h3 := hb3.size; have h2 := hb2.size; simp at h2; omega, hI3, hst⟩
          case measure => simp [intOf]; omega
      · have e := all_bad hx hall h1
        go_wp2_with (go_at_call 93; refine (ibytes_call x hdx _).mono ?_; rintro e w2 ⟨rfl, hb2⟩)
        go_ret2
        exact ⟨by rw [e]; rfl, (hbl.trans ((alloc_below wr _).mono (by omega))).trans (hb2.mono (by simp; omega))⟩
    · have e := all_end hlt hall
      go_wp2_with (go_at_call 97; refine (Try.Builder_String_any w.heap.size w.heap.size acc _ hI (by omega)).mono ?_; rintro e w2 ⟨rfl, hb2⟩)
      go_ret2
      exact ⟨by rw [e]; rfl, hbl.trans hb2⟩
set_option maxHeartbeats 4000000 in
theorem all_nil (base : Option Addr) (cap : Nat) (w : World) :
    Calls Try.prog 23 #[.slice base 0 cap] w fun e w' => e = .returned (.tuple #[.string (str (all []).1), .int .i64 (all []).2]) ∧ Below w.heap.size w w' := by
  have hI := Lib.fresh_isBuilder 128 5 w
  go_enter Try.func23, Try.ntmps23
  go_wp2
  go_loopw [5, 6, 7, 8, 11] (fun _ _ _ _ i wr => i = .int .i64 0 ∧ Below w.heap.size w wr ∧ w.heap.size < wr.heap.size ∧ IsBld w.heap.size w.heap.size [] wr) (fun _ _ _ _ i _ => 0)
  case atStart => exact ⟨rfl, alloc_below w _, by simp, hI⟩
  case round =>
    obtain ⟨rfl, hbl, hsz, hI⟩ := hrel
    go_wp2_with (go_at_call 97; refine (Try.Builder_String_any w.heap.size w.heap.size [] _ hI (by omega)).mono ?_; rintro e w2 ⟨rfl, hb2⟩)
    go_ret2
    exact ⟨rfl, hbl.trans hb2⟩
theorem rows_at {I : Cells} {w : World} {es : Nat} {xs : List (List AV)} {v : Value} (h0 : ¬ es = 0) (h : Rd I w (.sl .sh es xs) v) : (xs = [] ∧ ∃ base cap, v = .slice base 0 cap) ∨ ∃ g o cap, v = .slice (some ⟨g, o, none⟩) xs.length cap ∧ g < w.heap.size ∧
    ∀ (j k : Nat) x c, xs[j]? = some x → x[k]? = some c → ∃ u, w.cell? ⟨g, o + (j * es + k), none⟩ = some u ∧ Rd I w c u := by
  cases h with
  | sl p es xs base cap u hcap hmax hclip hnil hes hb hr =>
    cases xs with
    | nil => exact .inl ⟨rfl, base, cap, rfl⟩
    | cons y ys =>
      obtain ⟨g, o, rfl, hc⟩ := hb (by simp)
      · obtain ⟨c, cs, rfl⟩ := List.exists_cons_of_ne_nil (show y ≠ [] by rintro rfl; exact h0 (hes [] (by simp)).symm)
        exact .inr ⟨g, o, cap, rfl, block_lt_of_cell (hc 0 0 _ _ rfl rfl).2.1, fun j k x c hj hk => ⟨_, (hc j k x c hj hk).2.1, hr j k x c hj hk⟩⟩
theorem all_len (l : List It) : (all l).1.length ≤ 6 * l.length := by
  have key : ∀ (r : List It) (i : Nat) (out : By), (allR i r out).1.length ≤ out.length + 6 * r.length := by
    intro r
    induction r with
    | nil => intro i out; simp [allR]
    | cons x r ih =>
      intro i out
      unfold allR
      split
      · split
        · simp
        · have := ih (i + 1) (out ++ (ibR x).1)
          have h2 := ibR_len x
          simp only [List.length_append, List.length_cons] at *
          omega
      · simp
  have := key l 0 []
  simpa [all] using this
theorem all_good (l : List It) (hl : l.length ≤ 1000000) (hd : ∀ x ∈ l, u32b x.2.2.1) : Good Try.prog 23 [.sl .sh 4 (l.map it)] (.tuple [.str (all l).1, .int .i64 (all l).2]) := by
  have hal := all_len l
  refine .of_calls (u := .tuple #[.string (str (all l).1), .int .i64 (all l).2]) (fun g w => res_tup2 (.str _ (by unfold maxLen; omega)) (rd_int _ _ _ _) (by simp) (by simp)) fun w I vs h => ?_
  obtain ⟨u, rfl, hu⟩ := args1 h
  rcases rows_at (by omega) hu with ⟨he, base, cap, rfl⟩ | ⟨g, o, cap, rfl, hg, hc⟩
  · obtain rfl : l = [] := List.map_eq_nil_iff.1 he
    exact all_nil base cap w
  · rw [List.length_map]
    refine all_walk l g o cap w hg hl hd fun j x hx => ?_
    have hj : (l.map it)[j]? = some (it x) := by rw [List.getElem?_map, hx]; rfl
    obtain ⟨u0, e0, r0⟩ := hc j 0 _ _ hj rfl
    obtain ⟨u1, e1, r1⟩ := hc j 1 _ _ hj rfl
    obtain ⟨u2, e2, r2⟩ := hc j 2 _ _ hj rfl
    obtain ⟨u3, e3, r3⟩ := hc j 3 _ _ hj rfl
    obtain rfl := rdv_int r0
    obtain rfl := rdv_int r1
    obtain rfl := rdv_int r2
    obtain rfl := rdv_int r3
    exact ⟨e0, by rw [Nat.add_assoc]; exact e1, by rw [Nat.add_assoc]; exact e2, by rw [Nat.add_assoc]; exact e3⟩
end Go.Proofs.Ytkcdeefnkbbacaa

/- serial.rights: the right numbers, rising, each once. -/
import Derived.Test.YtfkihagcgjombaaT15b
import Derived.Test.YtfkihagcgjombaaSrt
import Derived.WalkKit
import Derived.OwnWalk
import Derived.Sort.OwnSortedInts
import Derived.Lib.OwnBridge
set_option maxRecDepth 100000
set_option linter.unusedVariables false
set_option linter.unusedSimpArgs false
namespace Go.Proofs.Ytfkihagcgjombaa
open Go.RowKit Go.Shelf Go.Sort
theorem infoI : (Try.prog.info? 3).map (fun i => (i.zero, i.size, i.bytes)) = some (some (.int .i64 0), 1, 8) := by kernel_rfl
def kp (l : List Int) (k : Nat) : List Int := (l.take k).filter fun n => decide (0 ≤ n ∧ n ≤ 65535)
theorem kp_len (l : List Int) (k : Nat) : (kp l k).length ≤ k := by
  unfold kp
  refine Nat.le_trans (List.length_filter_le _ _) ?_
  rw [List.length_take]; omega
theorem kp_y {l : List Int} {k : Nat} {x : Int} (hx : l[k]? = some x) (h : 0 ≤ x ∧ x ≤ 65535) : kp l (k + 1) = kp l k ++ [x] := by
  unfold kp; rw [take_at hx, List.filter_append]; simp [h]
theorem kp_n {l : List Int} {k : Nat} {x : Int} (hx : l[k]? = some x) (h : ¬ (0 ≤ x ∧ x ≤ 65535)) : kp l (k + 1) = kp l k := by
  unfold kp; rw [take_at hx, List.filter_append]; simp; omega
def srtI (l : List Int) : List Int := l.mergeSort fun x y => decide (x ≤ y)
theorem own_step {w wr w1 : World} {v v' : Value} {l : List Int} {k : Nat} {x : Int} {o : Obj} (hx : l[k]? = some x) (h : 0 ≤ x ∧ x ≤ 65535) (hbl : Below w.heap.size w wr) (hown : wr.ownsRow w.heap.size 3 1 v (kp l k).length ((kp l k).map (Value.int .i64)))
    (h1 : w1.ownsRow w.heap.size 3 1 v' ((kp l k).length + 1) ((kp l k).map (Value.int .i64) ++ [.int .i64 x])) (hg : (wr.alloc o).grownBy w1 v.ownBlock) :
    w1.ownsRow w.heap.size 3 1 v' (kp l (k + 1)).length ((kp l (k + 1)).map (Value.int .i64)) ∧ Below w.heap.size w w1 := by
  rw [kp_y hx h, List.length_append, List.map_append]
  refine ⟨h1, (hbl.alloc hbl.size o).grown hg (by have := hbl.size; simp; omega) fun j hj => ?_⟩
  rcases hown.2 with ⟨rfl, _⟩ | ⟨g, cap, cur, rfl, hb, _⟩
  · cases hj
  · cases hj; exact hb
theorem cs0 : Lib.compact (srtI []) = [] := by unfold srtI; rw [List.mergeSort_nil]; rfl
theorem holds_sorted {w1 : World} {g nn : Nat} {os : Array Obj} {ss : List Int} (hg : g < w1.heap.size) (hH : Holds (Value.int .i64) w1 g 0 ss.toArray) (hl : (srtI ss).length = ss.length) :
    Holds (Value.int .i64) (grow (putRow (Value.int .i64) (Sort.ahead w1 nn) g 0 (srtI ss).toArray) os) g 0 (srtI ss).toArray :=
  holds_grow (Value.int .i64) _ os g 0 _ (by simpa [putRow, mapBlock, Sort.ahead] using hg) (holds_putRow (Value.int .i64) _ g 0 _ _ (holds_ahead (Value.int .i64) w1 nn g 0 _ hH) (by simp [hl]))
theorem left_ofI {w w1 : World} {g cap nn q : Nat} {os : Array Obj} {ss : List Int} (hown : w1.ownsRow w.heap.size 3 1 (.slice (some ⟨g, 0, none⟩) ss.length cap) ss.length (ss.map (Value.int .i64))) (hbel : RowKit.Below w.heap.size w w1) (hbg : w.heap.size ≤ g) :
    ∃ v, Ending.returned (.slice (some ⟨g, 0, none⟩) (Lib.compact (srtI ss)).length cap) = Ending.returned v ∧ RowKit.Below w.heap.size w (putRow (Value.int .i64) (Sort.ahead (grow (putRow (Value.int .i64) (Sort.ahead w1 nn) g 0 (srtI ss).toArray) os) q) g 0 (Lib.compact (srtI ss) ++ List.replicate (ss.length - (Lib.compact (srtI ss)).length) 0).toArray) ∧
      (putRow (Value.int .i64) (Sort.ahead (grow (putRow (Value.int .i64) (Sort.ahead w1 nn) g 0 (srtI ss).toArray) os) q) g 0 (Lib.compact (srtI ss) ++ List.replicate (ss.length - (Lib.compact (srtI ss)).length) 0).toArray).ownsRow w.heap.size 3 1 v (Lib.compact (srtI ss)).length ((Lib.compact (srtI ss)).map (Value.int .i64)) := by
  have hl2 : (srtI ss).length = ss.length := List.length_mergeSort ss
  have hle := Lib.compact_length_le (srtI ss)
  rcases hown.2 with ⟨h0, _⟩ | ⟨g', cap', cur, hv, hbase, hb, h1, h2, h3, h4⟩
  · cases h0
  cases hv
  have hs := ownsRow_sortedI (n := nn) (os := os) (ts := srtI ss) hl2 hbase hb h1 h2 h3
  have hc := Lib.ownsRow_putRow (q := q) (k := (Lib.compact (srtI ss)).length) (ys := Lib.compact (srtI ss) ++ List.replicate (ss.length - (Lib.compact (srtI ss)).length) 0) hs (by simp; omega) (by omega)
  rw [List.take_left] at hc
  exact ⟨_, rfl, Lib.below_putRow (hbel.grown (grownBy_sortedI _) hbel.size (fun j hj => by cases hj; exact hbase)) hbg, hc⟩
set_option maxHeartbeats 4000000 in
theorem rights_walk (l : List Int) (g o cap : Nat) (w : World) (hg : g < w.heap.size) (hl : l.length ≤ 1000) (hcap : l.length ≤ cap) (hc : ∀ (j : Nat) x, l[j]? = some x → w.cell? ⟨g, o + j, none⟩ = some (.int .i64 x)) :
    Calls Try.prog 17 #[.slice (some ⟨g, o, none⟩) l.length cap] w fun e w' => ∃ v, e = .returned v ∧ Below w.heap.size w w' ∧
      w'.ownsRow w.heap.size 3 1 v (Lib.compact (srtI (kp l l.length))).length ((Lib.compact (srtI (kp l l.length))).map (Value.int .i64)) := by
  obtain ⟨i0, hi, hz0, hz1, hz2⟩ := info_parts infoI
  go_enter Try.func17, Try.ntmps17
  go_wp2
  go_loopw [3, 8] (fun v i wr => ∃ k : Nat, k ≤ l.length ∧ i = .int .i64 k ∧ wr.ownsRow w.heap.size 3 1 v (kp l k).length ((kp l k).map (Value.int .i64)) ∧ Below w.heap.size w wr) (fun _ i _ => l.length - (intOf i).toNat)
  case atStart => exact ⟨0, Nat.zero_le _, rfl, World.ownsRow_nil _ _ _ _, Below.refl _ _⟩
  case round =>
    obtain ⟨k, hk, rfl, hown, hbl⟩ := hrel
    have hkl := kp_len l k
    by_cases hlt : k < l.length
    · have hx : l[k]? = some l[k] := List.getElem?_eq_getElem (by omega)
      generalize l[k] = x at hx
      have hcx := (cell?_of_heap (hbl.block g hg) (o + k)).trans (hc k x hx)
      by_cases hr : 0 ≤ x ∧ x ≤ 65535
      · have hr1 := hr.1
        have hr2 := hr.2
        go_wp2_with (first
          | (at_builtin; refine wpList_append_own _ rfl _ _ 30 rfl w.heap.size 3 i0 (.int .i64 0) 1 8 Try.underlying30 hi hz0 hz1 hz2 rfl (by decide) _ _ _ rfl (hown.alloc _) ⟨wr.heap.size, 0, none⟩ 1 1 [.int .i64 x] rfl rfl ?c1 ?c2 ?c3 ?c4 ?c5 ?_)
          | go_in)
        case c1 =>
          intro j u hj
          match j, hj with
          | 0, hj => simp at hj; subst hj; simp [Addr.add]
        case c2 => intro u hu; simp at hu; subst hu; rfl
        case c3 => unfold maxLen; omega
        case c4 => omega
        case c5 => have := hbl.size; simp; omega
        intro v' w1 hown' hgrow _
        have R := own_step hx hr hbl hown hown' hgrow
        clear hown' hgrow hown hcx
        go_wp2
        go_roundw
        case rel => exact ⟨k + 1, by omega, by simp, R.1, R.2⟩
        case measure => simp [intOf]; omega
      · have hst := kp_n hx hr
        by_cases h0 : 0 ≤ x
        · have h5 : ¬ x ≤ 65535 := fun h => hr ⟨h0, h⟩
          go_wp2
          go_roundw
          case rel => exact ⟨k + 1, by omega, by simp, by rw [hst]; exact hown, hbl⟩
          case measure => simp [intOf]; omega
        · go_wp2
          go_roundw
          case rel => exact ⟨k + 1, by omega, by simp, by rw [hst]; exact hown, hbl⟩
          case measure => simp [intOf]; omega
    · obtain rfl : k = l.length := by omega
      rcases hown.2 with ⟨rfl, h0⟩ | ⟨g2, cap2, cur, rfl, hb2, hh2, hn2, hm2, hs2, ht2⟩
      · have hk0 : kp l l.length = [] := List.eq_nil_of_length_eq_zero h0
        go_wp2_with (first
          | (go_at_call 20; refine (Try.slices_Sort_int_none none 0 _).mono ?_; rintro e w2 ⟨rfl, rfl⟩)
          | (go_at_call 21; refine (Try.slices_Compact_int_empty none 0 _).mono ?_; rintro e w2 ⟨rfl, rfl⟩))
        go_ret
        exact ⟨_, rfl, hbl, by rw [hk0, cs0]; exact World.ownsRow_nil _ _ _ _⟩
      · obtain ⟨g3, cap3, hv3, _, hgl, hncap, hcm, _, hH⟩ := Lib.holds_of_ownsRow hown (by simp)
        cases hv3
        have hl2 : (srtI (kp l l.length)).length = (kp l l.length).length := List.length_mergeSort _
        have hsort := Try.slices_Sort_int g2 0 cap2 (kp l l.length) wr hH hgl (by omega)
        have X : Aside (wr.ownsRow w.heap.size 3 1 (.slice (some ⟨g2, 0, none⟩) (kp l l.length).length cap2) (kp l l.length).length ((kp l l.length).map (Value.int .i64)) ∧ RowKit.Below w.heap.size w wr ∧ w.heap.size ≤ g2 ∧ g2 < wr.heap.size ∧ (kp l l.length).length ≤ cap2 ∧ cap2 ≤ maxLen ∧ Holds (Value.int .i64) wr g2 0 (kp l l.length).toArray) := ⟨hown, hbl, hb2, hgl, hncap, hcm, hH⟩
        clear hown hbl hH hh2 ht2
        go_wp2_with (first
          | (go_at_call 20; refine hsort.mono ?_; rintro e w2 ⟨rfl, nn, os, rfl⟩
             have hH2 := holds_sorted (nn := nn) (os := os) X.out.2.2.2.1 X.out.2.2.2.2.2.2 hl2
             have hcomp := Try.slices_Compact_int g2 0 cap2 (srtI (kp l l.length)) _ hH2 (by omega) (by have := X.out.2.2.2.2.1; omega)
             rw [hl2] at hcomp
             clear hH2 hsort)
          | (go_at_call 21; refine hcomp.mono ?_; rintro e w3 ⟨rfl, q, rfl⟩))
        go_ret
        exact left_ofI X.out.1 X.out.2.1 X.out.2.2.1
/-! the plain law -/
theorem cu_spec {d : Array Int} (hs : ∀ i j, i ≤ j → j < d.size → d[i]! ≤ d[j]!) : ∀ m, m ≤ d.size → (Lib.compactUpTo d m).Pairwise (· < ·) ∧ (∀ x, x ∈ Lib.compactUpTo d m ↔ ∃ j, j < m ∧ d[j]! = x)
  | 0, _ => by simp [Lib.compactUpTo]
  | m + 1, hm => by
    obtain ⟨h1, h2⟩ := cu_spec hs m (by omega)
    rw [Lib.compactUpTo_succ]
    by_cases hk : Lib.keeps d m = true
    · rw [if_pos hk]
      refine ⟨?_, fun x => ?_⟩
      · rw [List.pairwise_append]
        refine ⟨h1, by simp, fun a ha b hb => ?_⟩
        obtain ⟨j, hj, rfl⟩ := (h2 a).1 ha
        rw [List.mem_singleton.1 hb]
        have hle := hs j m (by omega) (by omega)
        have hne : d[m - 1]! ≠ d[m]! := by
          unfold Lib.keeps at hk
          intro he
          have hm0 : m ≠ 0 := by omega
          simp [hm0] at hk
          exact hk he.symm
        have h3 := hs j (m - 1) (by omega) (by omega)
        have h4 := hs (m - 1) m (by omega) (by omega)
        omega
      · rw [List.mem_append, h2, List.mem_singleton]
        constructor
        · rintro (⟨j, hj, e⟩ | rfl)
          · exact ⟨j, by omega, e⟩
          · exact ⟨m, by omega, rfl⟩
        · rintro ⟨j, hj, e⟩
          by_cases hjm : j = m
          · subst hjm; exact .inr e.symm
          · exact .inl ⟨j, by omega, e⟩
    · rw [if_neg hk, List.append_nil]
      refine ⟨h1, fun x => ?_⟩
      rw [h2]
      constructor
      · rintro ⟨j, hj, e⟩; exact ⟨j, by omega, e⟩
      · rintro ⟨j, hj, e⟩
        by_cases hjm : j = m
        · subst hjm
          unfold Lib.keeps at hk
          have hm0 : j ≠ 0 := by rintro rfl; simp at hk
          simp [hm0] at hk
          exact ⟨j - 1, by omega, by rw [← e, hk]⟩
        · exact ⟨j, by omega, e⟩
theorem rise_eq : ∀ (a b : List Int), a.Pairwise (· < ·) → b.Pairwise (· < ·) → (∀ x, x ∈ a ↔ x ∈ b) → a = b
  | [], b, _, _, h => by
    cases b with
    | nil => rfl
    | cons y b => exact absurd ((h y).2 (by simp)) (by simp)
  | x :: a, [], _, _, h => absurd ((h x).1 (by simp)) (by simp)
  | x :: a, y :: b, ha, hb, h => by
    rw [List.pairwise_cons] at ha hb
    have hxy : x = y := by
      have h1 := (h x).1 (by simp)
      have h2 := (h y).2 (by simp)
      rcases List.mem_cons.1 h1 with h1 | h1
      · exact h1
      · rcases List.mem_cons.1 h2 with h2 | h2
        · exact h2.symm
        · have := ha.1 y h2
          have := hb.1 x h1
          omega
    subst hxy
    congr 1
    refine rise_eq a b ha.2 hb.2 fun z => ?_
    have hz := h z
    simp only [List.mem_cons] at hz
    constructor
    · intro hza
      rcases hz.1 (.inr hza) with rfl | hzb
      · exact absurd (ha.1 z hza) (by omega)
      · exact hzb
    · intro hzb
      rcases hz.2 (.inr hzb) with rfl | hza
      · exact absurd (hb.1 z hzb) (by omega)
      · exact hza
theorem rights_is (l : List Int) : Lib.compact (srtI (kp l l.length)) = S l := by
  have hsort : (srtI (kp l l.length)).Pairwise fun x y => (decide (x ≤ y)) = true := List.pairwise_mergeSort (fun a b c h1 h2 => by simp at *; omega) (fun a b => by simp; omega) _
  have hle : ∀ i j, i ≤ j → j < (srtI (kp l l.length)).toArray.size → (srtI (kp l l.length)).toArray[i]! ≤ (srtI (kp l l.length)).toArray[j]! := fun i j hij hj => by
    simp only [List.size_toArray] at hj
    rw [getElem!_pos _ i (by simp; omega), getElem!_pos _ j (by simp; omega)]
    simp only [List.getElem_toArray]
    rcases Nat.lt_or_ge i j with hlt | hge
    · have := List.pairwise_iff_getElem.1 hsort i j (by omega) hj hlt
      simpa using this
    · have : i = j := by omega
      subst this
      exact Int.le_refl _
  obtain ⟨h1, h2⟩ := cu_spec hle _ (Nat.le_refl _)
  unfold Lib.compact
  refine rise_eq _ _ h1 (T_rise l 65536) fun x => ?_
  rw [T_mem]
  have e : (srtI (kp l l.length)).length = (srtI (kp l l.length)).toArray.size := by simp
  rw [e, h2]
  have hm : (∃ j, j < (srtI (kp l l.length)).toArray.size ∧ (srtI (kp l l.length)).toArray[j]! = x) ↔ x ∈ srtI (kp l l.length) := by
    constructor
    · rintro ⟨j, hj, rfl⟩
      rw [getElem!_pos _ j hj]
      simp only [List.getElem_toArray]
      exact List.getElem_mem _
    · intro hx
      obtain ⟨j, hj, e⟩ := List.mem_iff_getElem.1 hx
      exact ⟨j, by simpa using hj, by rw [getElem!_pos _ j (by simpa using hj)]; simpa using e⟩
  rw [hm]
  unfold srtI
  rw [List.mem_mergeSort]
  unfold kp
  rw [List.take_length, List.mem_filter]
  simp only [decide_eq_true_eq]
  constructor
  · rintro ⟨h1, h2, h3⟩; exact ⟨h2, by omega, h1⟩
  · rintro ⟨h1, h2, h3⟩; exact ⟨h3, h1, by omega⟩
theorem args1 {I : Cells} {w : World} {a : AV} {vs : List Value} (h : ArgsR I w [a] vs) : ∃ v, vs = [v] ∧ Rd I w a v := by
  obtain ⟨hl, h⟩ := h
  match vs, hl with
  | [v], _ => exact ⟨v, rfl, h 0 _ _ rfl rfl⟩
theorem rdI {I : Cells} {w : World} {k : IntKind} {n : Int} {v : Value} (h : Rd I w (.int k n) v) : v = .int k n := by cases h; rfl
theorem rows1 {I : Cells} {w : World} {l : List Int} {v : Value} (h : Rd I w (.sl .sh 1 (l.map i1)) v) : (l = [] ∧ ∃ base cap, v = .slice base 0 cap) ∨ ∃ g o cap, v = .slice (some ⟨g, o, none⟩) l.length cap ∧ g < w.heap.size ∧ l.length ≤ cap ∧ ∀ (j : Nat) x, l[j]? = some x → w.cell? ⟨g, o + j, none⟩ = some (.int .i64 x) := by
  cases h with
  | sl p es xs base cap u hcap hmax hclip hnil hes hb hr =>
    by_cases hl : l = []
    · subst hl; exact .inl ⟨rfl, base, cap, rfl⟩
    · obtain ⟨g, o, rfl, hc⟩ := hb (by simpa using hl)
      have key : ∀ (j : Nat) x, l[j]? = some x → w.cell? ⟨g, o + j, none⟩ = some (.int .i64 x) := fun j x hx => by
        have hj : (l.map i1)[j]? = some (i1 x) := by rw [List.getElem?_map, hx]; rfl
        obtain ⟨_, h2, _⟩ := hc j 0 _ _ hj rfl
        have h3 := hr j 0 _ _ hj rfl
        rw [Nat.mul_one, Nat.add_zero] at h2
        rw [h2, rdI h3]
      obtain ⟨x, hx⟩ : ∃ x, l[0]? = some x := by cases l with | nil => exact absurd rfl hl | cons x r => exact ⟨x, rfl⟩
      refine .inr ⟨g, o, cap, by rw [List.length_map], block_lt_of_cell (key 0 x hx), by simpa using hcap, key⟩
theorem rights_res {w w' : World} {I : Cells} (hI : ∀ b o, I b o → ∃ u, w.cell? ⟨b, o, none⟩ = some u) {v : Value} {R : List Int} (hb : RowKit.Below w.heap.size w w') (hown : w'.ownsRow w.heap.size 3 1 v R.length (R.map (Value.int .i64))) :
    ∃ (g' : Gh), g'.base = w.heap.size ∧ (∀ b o, b < w.heap.size → (g'.I b o ↔ I b o)) ∧ (∀ b o, g'.I b o → ∃ u, w'.cell? ⟨b, o, none⟩ = some u) ∧ ResR g' w' (.sl .sh 1 (R.map i1)) v := by
  have hold : ∀ b o, I b o → ∃ u, w'.cell? ⟨b, o, none⟩ = some u := fun b o hi => by
    obtain ⟨u, hu⟩ := hI b o hi
    exact ⟨u, (cell?_of_heap (hb.block b (block_lt_of_cell hu)) o).trans hu⟩
  rcases hown.2 with ⟨rfl, h0⟩ | ⟨blk, cap, cur, rfl, hbl, hh, hn, hm, hs, ht⟩
  · have hR : R = [] := List.eq_nil_of_length_eq_zero h0
    subst hR
    exact ⟨⟨w.heap.size, I, fun _ => .none, fun _ => 0⟩, rfl, fun _ _ _ => Iff.rfl, hold, LocR.of_rd (.sl .sh 1 [] none 0 (fun _ _ => undef) (by simp) (by simp) (by simp) (by simp) (by simp) (by simp) (by simp)) (by simp)⟩
  · have hcell : ∀ (j : Nat) x, R[j]? = some x → w'.cell? ⟨blk, j, none⟩ = some (.int .i64 x) := fun j x hx => by
      have hj : j < R.length := lt_at hx
      have h1 : (cur.toList.take (R.length * 1))[j]? = (R.map (Value.int .i64))[j]? := by rw [ht]
      rw [List.getElem?_take, if_pos (by omega), List.getElem?_map, hx] at h1
      rw [cell_of_row w' _ _ cur _ (0, 0) hh]
      simpa using h1
    refine ⟨⟨w.heap.size, fun b o => I b o ∨ (b = blk ∧ o < R.length), fun _ => .none, fun _ => 0⟩, rfl, fun b o hlt => ⟨fun h => h.resolve_right fun hx => by omega, .inl⟩, fun b o h => ?_, ?_⟩
    · rcases h with h | ⟨rfl, h⟩
      · exact hold b o h
      · exact ⟨_, hcell o _ (List.getElem?_eq_getElem h)⟩
    · refine LocR.of_rd ?_ (by simp)
      have hd : Rd (fun b o => I b o ∨ (b = blk ∧ o < R.length)) w' (.sl .sh 1 (R.map i1)) (.slice (some ⟨blk, 0, none⟩) (R.map i1).length cap) := by
        refine .sl .sh 1 (R.map i1) _ cap (fun j _ => .int .i64 (R.getD j 0)) (by simpa using hn) hm (by simp) (by simp) (fun x hx => by obtain ⟨y, _, rfl⟩ := List.mem_map.1 hx; rfl) (fun _ => ⟨blk, 0, rfl, fun j k x c hj hk => ?_⟩) (fun j k x c hj hk => ?_)
        all_goals
          rw [List.getElem?_map] at hj
          obtain ⟨y, hy, rfl⟩ := Option.map_eq_some_iff.1 hj
          obtain rfl : k = 0 := by
            cases k with
            | zero => rfl
            | succ k => simp [i1] at hk
          cases hk
          have hg : R.getD j 0 = y := by rw [List.getD_eq_getElem?_getD, hy]; rfl
        · refine ⟨.inr ⟨rfl, by have := lt_at hy; omega⟩, ?_, rfl⟩
          rw [Nat.mul_one, Nat.add_zero, Nat.zero_add, hcell j y hy, hg]
        · rw [hg]; exact .int _ _
      rw [List.length_map] at hd
      exact hd
set_option maxHeartbeats 4000000 in
theorem rights_nil (base : Option Addr) (cap : Nat) (w : World) : Calls Try.prog 17 #[.slice base 0 cap] w fun e w' => e = .returned (.slice none 0 0) ∧ RowKit.Below w.heap.size w w' := by
  go_enter Try.func17, Try.ntmps17
  go_wp2
  refine wp_loop_rounds 1 ?_
  rw [rounds_succ]
  go_wp2_with (first
    | (go_at_call 20; refine (Try.slices_Sort_int_none none 0 _).mono ?_; rintro e w2 ⟨rfl, rfl⟩)
    | (go_at_call 21; refine (Try.slices_Compact_int_empty none 0 _).mono ?_; rintro e w2 ⟨rfl, rfl⟩))
  go_ret
  exact ⟨rfl, Below.refl _ _⟩
theorem T_nil : ∀ n, T n [] = []
  | 0 => rfl
  | n + 1 => by rw [T_succ, T_nil n]; simp
theorem rights_good (l s : List Int) (hl : l.length ≤ 1000) (hs : s = S l) : Good Try.prog 17 [.sl .sh 1 (l.map i1)] (.sl .sh 1 (s.map i1)) := by
  refine ⟨fun w I vs hI ha => ?_⟩
  obtain ⟨v, rfl, hv⟩ := args1 ha
  rcases rows1 hv with ⟨rfl, base, cap, rfl⟩ | ⟨g, o, cap, rfl, hg, hcap, hc⟩
  · refine (rights_nil base cap w).mono fun e w' ⟨he, hb⟩ => ?_
    obtain ⟨g', h1, h2, h3, h4⟩ := rights_res (R := []) hI hb (World.ownsRow_nil _ _ _ _)
    refine ⟨_, g', he, hb, h1, h2, h3, ?_⟩
    rw [hs, show S [] = [] from T_nil 65536]
    exact h4
  · refine (rights_walk l g o cap w hg hl hcap hc).mono fun e w' ⟨v, he, hb, hown⟩ => ?_
    rw [rights_is, ← hs] at hown
    obtain ⟨g', h1, h2, h3, h4⟩ := rights_res hI hb hown
    exact ⟨v, g', he, hb, h1, h2, h3, h4⟩
end Go.Proofs.Ytfkihagcgjombaa

/- The law WindowTurns. -/
import Derived.Test.YtkcdeefnkbbacaaW16d
set_option maxRecDepth 100000
set_option linter.unusedSimpArgs false
set_option linter.unusedVariables false
namespace Go.Proofs.Ytkcdeefnkbbacaa
open Go.RowKit
set_option maxHeartbeats 4000000
theorem k16_1 : Good Try.prog 61 [.agg [.int .i64 0, .sl .sh 8 []], ePn 1] (.tuple [.agg [.int .i64 0, .sl .sh 8 [pn 1]], .sl .own 8 [], .int .i64 0]) :=
  (wtake_good 0 [] 1 (by simp)).eq (by rw [show takeI 0 [] 1 = (0, [1], [], 0) by decide]; rfl)
theorem k16_2 : Good Try.prog 61 [.agg [.int .i64 0, .sl .sh 8 [pn 1]], ePn 1] (.tuple [.agg [.int .i64 0, .sl .sh 8 [pn 1]], .sl .own 8 [], .int .i64 6]) :=
  (wtake_good 0 [1] 1 (by simp)).eq (by rw [show takeI 0 [1] 1 = (0, [1], [], 6) by decide]; rfl)
theorem k16_3 : Good Try.prog 61 [.agg [.int .i64 0, .sl .sh 8 [pn 1]], ePn 8] (.tuple [.agg [.int .i64 0, .sl .sh 8 [pn 1]], .sl .own 8 [], .int .i64 8]) :=
  (wtake_good 0 [1] 8 (by simp)).eq (by rw [show takeI 0 [1] 8 = (0, [1], [], 8) by decide]; rfl)
theorem k16_4 : Good Try.prog 61 [.agg [.int .i64 0, .sl .sh 8 [pn 1]], ePn 0] (.tuple [.agg [.int .i64 2, .sl .sh 8 []], .sl .own 8 [pn 0, pn 1], .int .i64 0]) :=
  (wtake_good 0 [1] 0 (by simp)).eq (by rw [show takeI 0 [1] 0 = (2, [], [0, 1], 0) by decide]; rfl)
theorem k16_5 : Good Try.prog 61 [.agg [.int .i64 2, .sl .sh 8 []], ePn 1] (.tuple [.agg [.int .i64 2, .sl .sh 8 []], .sl .own 8 [], .int .i64 6]) :=
  (wtake_good 2 [] 1 (by simp)).eq (by rw [show takeI 2 [] 1 = (2, [], [], 6) by decide]; rfl)
theorem k16_b : Good Try.prog 64 [.agg [.int .i64 0, .sl .sh 8 [pn 1]]] (.tuple [.int .i64 0, .int .i64 2]) :=
  (wbits_good 0 [1] (by simp) (by simp)).eq (by rw [show ofB 0 [1] = 2 by decide])
theorem snd_1 : SndL 0 [1] := ⟨by simp, by simp⟩
theorem k16_s : Good Try.prog 62 [.agg [.int .i64 0, .sl .sh 8 [pn 1]]] (.bool true) := sound_good 0 [1] (by omega) snd_1 (by simp)
theorem k16_e : Good Try.prog 63 [.agg [.int .i64 0, .sl .sh 8 [pn 1]], .agg [.int .i64 0, .sl .sh 8 [pn 1]]] (.bool true) := (wsame_good 0 0 [1] [1] (by simp) (by simp)).eq (by simp)
theorem k16_n : Good Try.prog 63 [.agg [.int .i64 0, .sl .sh 8 [pn 1]], .agg [.int .i64 2, .sl .sh 8 []]] (.bool false) := (wsame_good 0 2 [1] [] (by simp) (by simp)).eq (by simp)
theorem awake16_good : Good Try.prog 58 [] (.bool true) := by
  apply good_at ak58 rfl rfl rfl
  conv => whnf
  refine ⟨_, new16_good, ?_⟩
  conv => whnf
  refine ⟨_, numbered_good _, ?_⟩
  conv => whnf
  refine ⟨_, k16_1, ?_⟩
  conv => whnf
  refine ⟨_, k16_b, ?_⟩
  conv => whnf
  refine And.intro (by decide) ?_
  conv => whnf
  refine ⟨_, numbered_good _, ?_⟩
  conv => whnf
  refine ⟨_, k16_2, ?_⟩
  conv => whnf
  refine And.intro (by decide) ?_
  conv => whnf
  refine ⟨_, numbered_good _, ?_⟩
  conv => whnf
  refine ⟨_, k16_3, ?_⟩
  conv => whnf
  refine And.intro (by decide) ?_
  conv => whnf
  refine ⟨_, numbered_good _, ?_⟩
  conv => whnf
  refine ⟨_, k16_4, ?_⟩
  conv => whnf
  refine And.intro (by decide) ?_
  conv => whnf
  refine ⟨_, numbered_good _, ?_⟩
  conv => whnf
  refine ⟨_, k16_5, ?_⟩
  conv => whnf
  refine br_r rfl rfl ?_
  conv => whnf
  refine br_l rfl rfl ?_
  conv => whnf
  refine br_l rfl rfl ?_
  conv => whnf
  refine br_l rfl rfl ?_
  conv => whnf
  refine br_l rfl rfl ?_
  conv => whnf
  refine br_l rfl rfl ?_
  conv => whnf
  refine br_l rfl rfl ?_
  conv => whnf
  refine br_l rfl rfl ?_
  conv => whnf
  refine br_l rfl rfl ?_
  conv => whnf
  refine br_l rfl rfl ?_
  conv => whnf
  refine br_l rfl rfl ?_
  conv => whnf
  refine br_l rfl rfl ?_
  conv => whnf
  refine br_l rfl rfl ?_
  conv => whnf
  refine br_l rfl rfl ?_
  conv => whnf
  refine br_l rfl rfl ?_
  conv => whnf
  refine And.intro (by decide) ?_
  with_reducible refine ⟨_, rfl, ?_⟩
  conv => whnf
  refine br_l rfl rfl ?_
  conv => whnf
  refine br_l rfl rfl ?_
  conv => whnf
  refine br_l rfl rfl ?_
  conv => whnf
  refine br_l rfl rfl ?_
  conv => whnf
  refine br_l rfl rfl ?_
  conv => whnf
  refine br_l rfl rfl ?_
  conv => whnf
  refine And.intro (by decide) ?_
  with_reducible refine ⟨_, rfl, ?_⟩
  conv => whnf
  refine br_l rfl rfl ?_
  conv => whnf
  refine br_l rfl rfl ?_
  conv => whnf
  refine br_l rfl rfl ?_
  conv => whnf
  refine br_l rfl rfl ?_
  conv => whnf
  refine br_l rfl rfl ?_
  conv => whnf
  refine br_l rfl rfl ?_
  conv => whnf
  refine br_l rfl rfl ?_
  conv => whnf
  refine br_l rfl rfl ?_
  conv => whnf
  refine br_l rfl rfl ?_
  conv => whnf
  refine br_l rfl rfl ?_
  conv => whnf
  refine br_l rfl rfl ?_
  conv => whnf
  refine br_l rfl rfl ?_
  conv => whnf
  refine br_l rfl rfl ?_
  conv => whnf
  refine br_l rfl rfl ?_
  conv => whnf
  refine br_l rfl rfl ?_
  conv => whnf
  refine br_l rfl rfl ?_
  conv => whnf
  refine br_l rfl rfl ?_
  conv => whnf
  refine br_l rfl rfl ?_
  conv => whnf
  refine br_l rfl rfl ?_
  conv => whnf
  refine br_l rfl rfl ?_
  conv => whnf
  refine br_l rfl rfl ?_
  conv => whnf
  refine ⟨_, k16_s, ?_⟩
  conv => whnf
  refine br_l rfl rfl ?_
  conv => whnf
  refine br_l rfl rfl ?_
  conv => whnf
  refine br_l rfl rfl ?_
  conv => whnf
  refine br_l rfl rfl ?_
  conv => whnf
  refine ⟨_, k16_e, ?_⟩
  conv => whnf
  refine br_l rfl rfl ?_
  conv => whnf
  refine br_l rfl rfl ?_
  conv => whnf
  refine br_l rfl rfl ?_
  conv => whnf
  refine br_l rfl rfl ?_
  conv => whnf
  refine ⟨_, k16_n, ?_⟩
  conv => whnf
  refine br_l rfl rfl ?_
  conv => whnf
  refine br_l rfl rfl ?_
  conv => whnf
  refine AV.of_eqv ?_
  conv => whnf
  refine And.intro (by decide) ?_
  exact True.intro
def ins : List Int → Int → List Int
  | [], p => [p]
  | x :: r, p => if p < x then p :: x :: r else x :: ins r p
theorem putI_ins : ∀ (l : List Int) (p : Int), putI l p = ins l p
  | [], _ => rfl
  | x :: r, p => by
    unfold ins putI plc
    split
    · rfl
    · rw [← putI_ins r p]; rfl
theorem mem_ins : ∀ {l : List Int} {p y : Int}, y ∈ ins l p ↔ y = p ∨ y ∈ l
  | [], p, y => by simp [ins]
  | x :: r, p, y => by
    unfold ins
    split
    · simp
    · rw [List.mem_cons, mem_ins]; simp only [List.mem_cons]; exact ⟨fun h => by rcases h with h | h | h <;> simp [h], fun h => by rcases h with h | h | h <;> simp [h]⟩
theorem ins_sorted : ∀ {l : List Int} {p : Int}, l.Pairwise (· < ·) → ¬ p ∈ l → (ins l p).Pairwise (· < ·)
  | [], p, _, _ => by simp [ins]
  | x :: r, p, h, hp => by
    have hc := List.pairwise_cons.1 h
    unfold ins
    split
    · rename_i hx
      refine List.pairwise_cons.2 ⟨fun y hy => ?_, h⟩
      rcases List.mem_cons.1 hy with rfl | hy
      · exact hx
      · have := hc.1 y hy; omega
    · rename_i hx
      have hne : p ≠ x := fun e => hp (by simp [e])
      refine List.pairwise_cons.2 ⟨fun y hy => ?_, ins_sorted hc.2 fun h => hp (by simp [h])⟩
      rcases mem_ins.1 hy with rfl | hy
      · omega
      · exact hc.1 y hy
theorem run_spec : ∀ (L : List Int) (n : Int), L.Pairwise (· < ·) → (∀ x ∈ L, n ≤ x) → L = (runL n L).1 ++ (runL n L).2 ∧ (∀ (j : Nat) x, (runL n L).1[j]? = some x → x = n + j) ∧ (∀ x ∈ (runL n L).2, n + ((runL n L).1.length : Int) < x)
  | [], n, _, _ => ⟨rfl, by simp [runL], by simp [runL]⟩
  | x :: r, n, hp, hn => by
    have hc := List.pairwise_cons.1 hp
    by_cases h : x = n
    · obtain ⟨h1, h2, h3⟩ := run_spec r (n + 1) hc.2 fun y hy => by have := hc.1 y hy; omega
      have e : runL n (x :: r) = (x :: (runL (n + 1) r).1, (runL (n + 1) r).2) := if_pos h
      rw [e]
      refine ⟨by show _ = x :: (_ ++ _); rw [← h1], fun j y hj => ?_, fun y hy => ?_⟩
      · cases j with
        | zero => cases hj; rw [h]; simp
        | succ j => have := h2 j y hj; omega
      · have := h3 y hy
        show n + ((x :: (runL (n + 1) r).1).length : Int) < y
        rw [List.length_cons]; omega
    · have e : runL n (x :: r) = ([], x :: r) := if_neg h
      rw [e]
      refine ⟨rfl, by simp, fun y hy => ?_⟩
      have hx := hn x (by simp)
      show n + ((([] : List Int).length : Nat) : Int) < y
      rw [List.length_nil]
      rcases List.mem_cons.1 hy with rfl | hy
      · omega
      · have := hc.1 y hy; omega
theorem rise_len : ∀ {l : List Int} {a b : Int}, l.Pairwise (· < ·) → (∀ x ∈ l, a < x ∧ x < b) → (l.length : Int) ≤ max 0 (b - a - 1)
  | [], a, b, _, _ => by simp; omega
  | x :: r, a, b, hp, h => by
    have hc := List.pairwise_cons.1 hp
    have hx := h x (by simp)
    have := rise_len (l := r) (a := x) (b := b) hc.2 fun y hy => ⟨hc.1 y hy, (h y (by simp [hy])).2⟩
    rw [List.length_cons]; omega
def WInv (n : Int) (A : List Int) : Prop := 0 ≤ n ∧ n ≤ 32 ∧ A.Pairwise (· < ·) ∧ ∀ x ∈ A, n < x ∧ x < n + 8 ∧ x ≤ 31
theorem WInv.snd {n : Int} {A : List Int} (h : WInv n A) : SndL n A := ⟨h.2.2.1, fun x hx => by have := h.2.2.2 x hx; omega⟩
theorem WInv.len {n : Int} {A : List Int} (h : WInv n A) : A.length ≤ 7 := by
  have := rise_len (a := n) (b := n + 8) h.2.2.1 fun x hx => by have := h.2.2.2 x hx; omega
  omega
theorem WInv.bnd {n : Int} {A : List Int} (h : WInv n A) : ∀ s ∈ A, s ≤ 9223372036854775807 := fun s hs => by have := h.2.2.2 s hs; omega
structure TkOk (n : Int) (A : List Int) (p : Int) (r : Int × List Int × List Int × Int) : Prop where
  inv : WInv r.1 r.2.1
  bad : ¬ r.2.2.2 = 0 → r.1 = n ∧ r.2.1 = A ∧ r.2.2.1 = []
  out : ∀ (j : Nat) x, r.2.2.1[j]? = some x → x = n + j
  next : r.1 = n + r.2.2.1.length
  has : r.2.2.2 = 0 → p < r.1 ∨ p ∈ r.2.1
theorem tk_ok {n : Int} {A : List Int} {p : Int} (h : WInv n A) (hp : 0 ≤ p ∧ p ≤ 31) : TkOk n A p (takeI n A p) := by
  have h0 : 0 ≤ p ∧ p ≤ 65535 ∧ 0 ≤ n ∧ n ≤ 65535 := by have := h.1; have := h.2.1; omega
  have same : ∀ e : Int, ¬ e = 0 → TkOk n A p (n, A, [], e) := fun e he => ⟨h, fun _ => ⟨rfl, rfl, rfl⟩, by simp, by simp, fun h => absurd h he⟩
  by_cases h2 : p < n
  · rw [take_old h0 h2]; exact same 6 (by decide)
  by_cases h3 : p < n + 8
  · by_cases h4 : p ∈ A
    · rw [take_dup h0 h2 h3 h4]; exact same 6 (by decide)
    · rw [take_new h0 h2 h3 h4]
      have hL : (putI A p).Pairwise (· < ·) := by rw [putI_ins]; exact ins_sorted h.2.2.1 h4
      have hm : ∀ x ∈ putI A p, n ≤ x ∧ x < n + 8 ∧ x ≤ 31 := fun x hx => by
        rw [putI_ins] at hx
        rcases mem_ins.1 hx with rfl | hx
        · omega
        · have := h.2.2.2 x hx; omega
      have hin : p ∈ putI A p := by rw [putI_ins]; exact mem_ins.2 (.inl rfl)
      obtain ⟨r1, r2, r3⟩ := run_spec (putI A p) n hL fun x hx => (hm x hx).1
      generalize runL n (putI A p) = R at r1 r2 r3
      rw [r1] at hL hm hin
      have hk : n + (R.1.length : Int) ≤ 32 := by
        cases hl : R.1.length with
        | zero => have := h.2.1; simp; omega
        | succ k =>
          have hx : R.1[k]? = some (R.1[k]'(by omega)) := List.getElem?_eq_getElem _
          have e := r2 k _ hx
          have := hm _ (List.mem_append_left _ (List.mem_of_getElem? hx))
          omega
      refine ⟨⟨?_, hk, (List.pairwise_append.1 hL).2.1, fun x hx => ?_⟩, fun hh => absurd rfl hh, r2, rfl, fun _ => ?_⟩
      · have := h.1; show 0 ≤ n + (R.1.length : Int); omega
      · have := hm x (List.mem_append_right _ hx)
        have := r3 x hx
        show n + (R.1.length : Int) < x ∧ x < n + (R.1.length : Int) + 8 ∧ x ≤ 31
        omega
      · rcases List.mem_append.1 hin with hin | hin
        · obtain ⟨j, hj⟩ := List.getElem?_of_mem hin
          have e := r2 j p hj
          have := lt_at hj
          left
          show p < n + (R.1.length : Int)
          omega
        · exact .inr hin
  · rw [take_full h0 h2 h3]; exact same 8 (by decide)
theorem bitB_ofN {n : Int} {l : List Int} {i : Nat} (hi : i < 8) : bitB ((ofN n l : Nat) : Int) i = l.any fun s => decide (s = n + (i : Int)) := by
  rw [← ofN_bit n l hi, Nat.testBit_eq_decide_div_mod_eq]
  unfold bitB
  exact decide_eq_decide.2 (by omega)
theorem tk_has {n : Int} {A : List Int} {p : Int} (h : WInv n A) (hp : 0 ≤ p ∧ p ≤ 31) (h0 : p < n ∨ p ∈ A) : hasB n (ofB n A) p = true := by
  by_cases h1 : p < n
  · exact has_lt h1
  · have hin : p ∈ A := h0.resolve_left h1
    have hb := h.2.2.2 p hin
    have hn := h.1
    rw [has_bit h1 (by omega), ofB_pos (by omega), bitB_ofN (by omega)]
    exact List.any_eq_true.2 ⟨p, hin, decide_eq_true (by omega)⟩
abbrev m31 (x : Int) : Int := IntKind.i64.wrap (((BitVec.ofInt IntKind.i64.bits x &&& BitVec.ofInt IntKind.i64.bits 31).toNat : Nat) : Int)
theorem m31_b (x : Int) : 0 ≤ m31 x ∧ m31 x ≤ 31 := by
  have e : (BitVec.ofInt IntKind.i64.bits 31).toNat = 31 := by decide
  have hle : (BitVec.ofInt IntKind.i64.bits x &&& BitVec.ofInt IntKind.i64.bits 31).toNat ≤ 31 := by rw [BitVec.toNat_and, e]; exact Nat.and_le_right
  unfold m31
  rw [wrap_i64]; omega
theorem t_snd {n : Int} {A : List Int} {x : Int} (h : WInv n A) : Good Try.prog 62 [eW (takeI n A (m31 x)).1 (takeI n A (m31 x)).2.1] (.bool true) := by
  have hi := (tk_ok h (m31_b x)).inv
  exact sound_good _ _ ⟨hi.1, by have := hi.2.1; omega⟩ hi.snd (by have := hi.len; omega)
theorem t_same {n : Int} {A : List Int} {x : Int} (h : WInv n A) (he : ¬ (takeI n A (m31 x)).2.2.2 = 0) : Good Try.prog 63 [eW (takeI n A (m31 x)).1 (takeI n A (m31 x)).2.1, eW n A] (.bool true) := by
  obtain ⟨e1, e2, _⟩ := (tk_ok h (m31_b x)).bad he
  rw [e1, e2]
  exact (wsame_good n n A A (by have := h.len; omega) (by have := h.len; omega)).eq (by simp)
theorem t_bits {n : Int} {A : List Int} {x : Int} (h : WInv n A) : Good Try.prog 64 [eW (takeI n A (m31 x)).1 (takeI n A (m31 x)).2.1] (.tuple [.int .i64 (takeI n A (m31 x)).1, .int .i64 (ofB (takeI n A (m31 x)).1 (takeI n A (m31 x)).2.1)]) := by
  have hi := (tk_ok h (m31_b x)).inv
  exact wbits_good _ _ (by have := hi.len; omega) hi.bnd
theorem t_has {n : Int} {A : List Int} {x : Int} (h : WInv n A) (he : (takeI n A (m31 x)).2.2.2 = 0) : Good Try.prog 40 [eA 0 0 0 0 0 (takeI n A (m31 x)).1 (ofB (takeI n A (m31 x)).1 (takeI n A (m31 x)).2.1), .int .i64 (m31 x)] (.bool true) := by
  have hk := tk_ok h (m31_b x)
  exact (has_good 0 0 0 0 0 _ _ (m31 x)).eq (by rw [tk_has hk.inv (m31_b x) (hk.has he)])
theorem winv0 : WInv 0 [] := ⟨by omega, by omega, by simp, by simp⟩
theorem tk_len0 {n : Int} {A : List Int} {x : Int} (h : WInv n A) (he : ¬ (takeI n A (m31 x)).2.2.2 = 0) : (((takeI n A (m31 x)).2.2.1.map pn).length : Int) = 0 := by
  rw [((tk_ok h (m31_b x)).bad he).2.2]; rfl
theorem windowTurns_good (l : List Int) : Good Try.prog 12 [.sl .sh 1 (l.map i1)] (.bool true) := by
  apply good_at ak12 rfl rfl rfl
  conv => whnf
  refine And.intro (fun hc0 => ?_) (fun hc0 => ?_)
  · replace hc0 := of_decide_eq_true hc0
    conv => whnf
    refine ⟨_, awake16_good, ?_⟩
    conv => whnf
    refine AV.of_eqv ?_
    conv => whnf
    refine And.intro (by with_reducible rfl) ?_
    exact True.intro
  · replace hc0 := of_decide_eq_false hc0
    conv => whnf
    refine ⟨_, new16_good, ?_⟩
    conv => whnf
    refine loop_at (α := Nat × Int × List Int) [] (fun ⟨i, n, A⟩ => [(22, .int .i64 (i : Int)), (4, .int .i64 n)]) (fun ⟨i, n, A⟩ => [(0, some ⟨true, 2, [[.int .i64 n, .sl .sh 8 (A.map pn)]]⟩)]) (fun ⟨i, n, A⟩ => i ≤ l.length ∧ WInv n A) (fun ⟨i, n, A⟩ => l.length - i) ((0, 0, [])) (st_of ?_) ?_ (by rintro ⟨i, n, A⟩ _; rfl) ?_
    · conv => whnf
      refine And.intro (by with_reducible rfl) ?_
      conv => whnf
      refine And.intro (by with_reducible rfl) ?_
      refine And.intro (by with_reducible rfl) ?_
      conv => whnf
      refine And.intro (by with_reducible rfl) ?_
      conv => whnf
      refine And.intro (by with_reducible rfl) ?_
      conv => whnf
      refine And.intro (by with_reducible rfl) ?_
      conv => whnf
      refine And.intro (by with_reducible rfl) ?_
      conv => whnf
      refine And.intro (by with_reducible rfl) ?_
      conv => whnf
      refine And.intro (by with_reducible rfl) ?_
      conv => whnf
      refine And.intro (by with_reducible rfl) ?_
      conv => whnf
      refine And.intro (by with_reducible rfl) ?_
      conv => whnf
      refine And.intro (by decide) ?_
      conv => whnf
      refine And.intro (by with_reducible rfl) ?_
      conv => whnf
      refine And.intro (by decide) ?_
      exact True.intro
    · dsimp only
      (exact ⟨Nat.zero_le _, winv0⟩)
    · rintro ⟨i, n, A⟩ nextl0 hIl0 ihl0
      try dsimp only at hIl0
      conv => whnf
      refine And.intro (fun hc1 => ?_) (fun hc1 => ?_)
      · replace hc1 := of_decide_eq_true hc1
        conv => whnf
        refine And.intro (by omega) ?_
        refine ex_row (l := l) ?_ fun x hx => ?_
        · (simp only [map_rows] at *; omega)
        · simp only [toNat_ofNat] at hx
          conv => whnf
          refine ⟨_, numbered_good _, ?_⟩
          conv => whnf
          refine ⟨_, (wtake_good n A (m31 x)) ?_, ?_⟩
          · (have := hIl0.2.len; omega)
          · conv => whnf
            refine ⟨_, (t_snd hIl0.2), ?_⟩
            conv => whnf
            refine br_l rfl rfl ?_
            conv => whnf
            refine br_l rfl rfl ?_
            conv => whnf
            refine br_l rfl rfl ?_
            conv => whnf
            refine And.intro (fun hc3 => ?_) (fun hc3 => ?_)
            · replace hc3 := of_decide_eq_false (Bool.not_eq_true' _ |>.mp hc3)
              conv => whnf
              refine br_l rfl rfl ?_
              conv => whnf
              refine br_l rfl rfl ?_
              conv => whnf
              refine br_l rfl rfl ?_
              conv => whnf
              refine And.intro (fun hc4 => ?_) (fun hc4 => ?_)
              · replace hc4 := of_decide_eq_true (Bool.not_eq_false' _ |>.mp hc4)
                conv => whnf
                refine br_l rfl rfl ?_
                conv => whnf
                refine br_l rfl rfl ?_
                conv => whnf
                refine ⟨_, (t_same hIl0.2) ?_, ?_⟩
                · assumption
                · conv => whnf
                  refine br_l rfl rfl ?_
                  conv => whnf
                  refine br_l rfl rfl ?_
                  conv => whnf
                  refine br_r rfl rfl ?_
                  conv => whnf
                  refine br_l rfl rfl ?_
                  conv => whnf
                  refine br_l rfl rfl ?_
                  conv => whnf
                  refine br_r rfl rfl ?_
                  conv => whnf
                  refine br_r rfl rfl ?_
                  conv => whnf
                  refine loop_at (α := Nat) [] (fun j => [(56, .int .i64 (j : Int)), (4, .int .i64 (n + (j : Int)))]) (fun j => []) (fun j => j ≤ (takeI n A (m31 x)).2.2.1.length) (fun j => (takeI n A (m31 x)).2.2.1.length - j) (0) (st_of ?_) ?_ (by rintro j _; rfl) ?_
                  · conv => whnf
                    refine And.intro (by with_reducible rfl) ?_
                    conv => whnf
                    refine And.intro (by with_reducible rfl) ?_
                    refine And.intro (by with_reducible rfl) ?_
                    conv => whnf
                    refine And.intro (by omega) ?_
                    conv => whnf
                    refine And.intro (by with_reducible rfl) ?_
                    conv => whnf
                    refine And.intro (by with_reducible rfl) ?_
                    refine And.intro (by with_reducible rfl) ?_
                    conv => whnf
                    refine And.intro (by with_reducible rfl) ?_
                    refine And.intro (by with_reducible rfl) ?_
                    conv => whnf
                    refine And.intro (by with_reducible rfl) ?_
                    conv => whnf
                    refine And.intro (by with_reducible rfl) ?_
                    conv => whnf
                    refine And.intro (by with_reducible rfl) ?_
                    conv => whnf
                    refine And.intro (by with_reducible rfl) ?_
                    conv => whnf
                    refine And.intro (by with_reducible rfl) ?_
                    conv => whnf
                    refine And.intro (by with_reducible rfl) ?_
                    conv => whnf
                    refine And.intro (by with_reducible rfl) ?_
                    conv => whnf
                    refine And.intro (by with_reducible rfl) ?_
                    conv => whnf
                    refine And.intro (by with_reducible rfl) ?_
                    conv => whnf
                    refine And.intro (by with_reducible rfl) ?_
                    conv => whnf
                    refine And.intro (by with_reducible rfl) ?_
                    conv => whnf
                    refine And.intro (by with_reducible rfl) ?_
                    conv => whnf
                    refine And.intro (by with_reducible rfl) ?_
                    conv => whnf
                    refine And.intro (by with_reducible rfl) ?_
                    conv => whnf
                    refine And.intro (by with_reducible rfl) ?_
                    conv => whnf
                    refine And.intro (by with_reducible rfl) ?_
                    conv => whnf
                    refine And.intro (by with_reducible rfl) ?_
                    conv => whnf
                    refine And.intro (by with_reducible rfl) ?_
                    conv => whnf
                    refine And.intro (by with_reducible rfl) ?_
                    conv => whnf
                    refine And.intro (by with_reducible rfl) ?_
                    conv => whnf
                    refine And.intro (by with_reducible rfl) ?_
                    conv => whnf
                    refine And.intro (by with_reducible rfl) ?_
                    conv => whnf
                    refine And.intro (by with_reducible rfl) ?_
                    conv => whnf
                    refine And.intro (by with_reducible rfl) ?_
                    conv => whnf
                    refine And.intro (by with_reducible rfl) ?_
                    conv => whnf
                    refine And.intro (by with_reducible rfl) ?_
                    conv => whnf
                    refine And.intro (by with_reducible rfl) ?_
                    conv => whnf
                    refine And.intro (by with_reducible rfl) ?_
                    conv => whnf
                    refine And.intro (by with_reducible rfl) ?_
                    conv => whnf
                    refine And.intro (by with_reducible rfl) ?_
                    conv => whnf
                    refine And.intro (by with_reducible rfl) ?_
                    conv => whnf
                    refine And.intro (by with_reducible rfl) ?_
                    conv => whnf
                    refine And.intro (by with_reducible rfl) ?_
                    conv => whnf
                    refine And.intro (by with_reducible rfl) ?_
                    conv => whnf
                    refine And.intro (by with_reducible rfl) ?_
                    conv => whnf
                    refine And.intro (by with_reducible rfl) ?_
                    conv => whnf
                    refine And.intro (by with_reducible rfl) ?_
                    conv => whnf
                    refine And.intro (by with_reducible rfl) ?_
                    conv => whnf
                    refine And.intro (by with_reducible rfl) ?_
                    conv => whnf
                    refine And.intro (by with_reducible rfl) ?_
                    conv => whnf
                    refine And.intro (by with_reducible rfl) ?_
                    conv => whnf
                    refine And.intro (by with_reducible rfl) ?_
                    conv => whnf
                    refine And.intro (by with_reducible rfl) ?_
                    conv => whnf
                    refine And.intro (by with_reducible rfl) ?_
                    conv => whnf
                    refine And.intro (by with_reducible rfl) ?_
                    conv => whnf
                    refine And.intro (by with_reducible rfl) ?_
                    conv => whnf
                    refine And.intro (by with_reducible rfl) ?_
                    conv => whnf
                    refine And.intro (by with_reducible rfl) ?_
                    conv => whnf
                    refine And.intro (by with_reducible rfl) ?_
                    conv => whnf
                    refine And.intro (by with_reducible rfl) ?_
                    conv => whnf
                    refine And.intro (by with_reducible rfl) ?_
                    conv => whnf
                    refine And.intro (by with_reducible rfl) ?_
                    conv => whnf
                    refine And.intro (by with_reducible rfl) ?_
                    conv => whnf
                    refine And.intro (by with_reducible rfl) ?_
                    conv => whnf
                    refine And.intro (by with_reducible rfl) ?_
                    conv => whnf
                    refine And.intro (by with_reducible rfl) ?_
                    conv => whnf
                    refine And.intro (by with_reducible rfl) ?_
                    conv => whnf
                    refine And.intro (by with_reducible rfl) ?_
                    conv => whnf
                    refine And.intro (by with_reducible rfl) ?_
                    conv => whnf
                    refine And.intro (by with_reducible rfl) ?_
                    conv => whnf
                    refine And.intro (by with_reducible rfl) ?_
                    conv => whnf
                    refine And.intro (by with_reducible rfl) ?_
                    conv => whnf
                    refine And.intro (by with_reducible rfl) ?_
                    conv => whnf
                    refine And.intro (by with_reducible rfl) ?_
                    conv => whnf
                    refine And.intro (by with_reducible rfl) ?_
                    conv => whnf
                    refine And.intro (by with_reducible rfl) ?_
                    conv => whnf
                    refine And.intro (by with_reducible rfl) ?_
                    conv => whnf
                    refine And.intro (by with_reducible rfl) ?_
                    conv => whnf
                    refine And.intro (by decide) ?_
                    conv => whnf
                    refine And.intro (by with_reducible rfl) ?_
                    conv => whnf
                    refine And.intro (by with_reducible rfl) ?_
                    conv => whnf
                    refine And.intro (by with_reducible rfl) ?_
                    conv => whnf
                    refine And.intro (by with_reducible rfl) ?_
                    conv => whnf
                    refine And.intro (by with_reducible rfl) ?_
                    conv => whnf
                    refine And.intro (by with_reducible rfl) ?_
                    conv => whnf
                    refine And.intro (by with_reducible rfl) ?_
                    conv => whnf
                    refine And.intro (by with_reducible rfl) ?_
                    conv => whnf
                    refine And.intro (by with_reducible rfl) ?_
                    conv => whnf
                    refine And.intro (by with_reducible rfl) ?_
                    conv => whnf
                    refine And.intro (by with_reducible rfl) ?_
                    conv => whnf
                    refine And.intro (by with_reducible rfl) ?_
                    exact True.intro
                  · omega
                  · rintro j nextl1 hIl1 ihl1
                    try dsimp only at hIl1
                    conv => whnf
                    refine And.intro (fun hc5 => ?_) (fun hc5 => ?_)
                    · replace hc5 := of_decide_eq_true hc5
                      (exfalso; omega)
                    · replace hc5 := of_decide_eq_false hc5
                      conv => whnf
                      refine ⟨_, (t_bits hIl0.2), ?_⟩
                      conv => whnf
                      refine And.intro (fun hc6 => ?_) (fun hc6 => ?_)
                      · replace hc6 := of_decide_eq_true (Bool.not_eq_false' _ |>.mp hc6)
                        conv => whnf
                        refine br_l rfl rfl ?_
                        conv => whnf
                        refine br_l rfl rfl ?_
                        conv => whnf
                        refine br_r rfl rfl ?_
                        conv => whnf
                        refine And.intro (fun hc7 => ?_) (fun hc7 => ?_)
                        · replace hc7 := of_decide_eq_true (Bool.not_eq_false' _ |>.mp hc7)
                          conv => whnf
                          refine br_l rfl rfl ?_
                          conv => whnf
                          refine br_l rfl rfl ?_
                          conv => whnf
                          refine And.intro (fun hc8 => ?_) (fun hc8 => ?_)
                          · replace hc8 := of_decide_eq_true hc8
                            contradiction
                          · replace hc8 := of_decide_eq_false hc8
                            conv => whnf
                            refine br_r rfl rfl ?_
                            conv => whnf
                            refine br_r rfl rfl ?_
                            conv => whnf
                            refine br_r rfl rfl ?_
                            conv => whnf
                            refine br_r rfl rfl ?_
                            conv => whnf
                            refine br_r rfl rfl ?_
                            conv => whnf
                            refine br_r rfl rfl ?_
                            conv => whnf
                            refine br_l rfl rfl ?_
                            conv => whnf
                            refine br_r rfl rfl ?_
                            conv => whnf
                            refine br_r rfl rfl ?_
                            conv => whnf
                            refine br_r rfl rfl ?_
                            conv => whnf
                            refine ihl0 ((i + 1, (takeI n A (m31 x)).1, (takeI n A (m31 x)).2.1)) _ ?_ ?_ (st_of ?_)
                            · dsimp only
                              (have := lt_at hx; exact ⟨by omega, (tk_ok hIl0.2 (m31_b x)).inv⟩)
                            · dsimp only
                              (simp only [map_rows] at *; omega)
                            · conv => whnf
                              refine And.intro (by with_reducible rfl) ?_
                              conv => whnf
                              refine And.intro (by with_reducible rfl) ?_
                              refine And.intro (by with_reducible rfl) ?_
                              conv => whnf
                              refine And.intro (by omega) ?_
                              conv => whnf
                              refine And.intro (by with_reducible rfl) ?_
                              conv => whnf
                              refine And.intro (by with_reducible rfl) ?_
                              conv => whnf
                              refine And.intro (by with_reducible rfl) ?_
                              conv => whnf
                              refine And.intro (by with_reducible rfl) ?_
                              conv => whnf
                              refine And.intro (by with_reducible rfl) ?_
                              conv => whnf
                              refine And.intro (by with_reducible rfl) ?_
                              conv => whnf
                              refine And.intro (by with_reducible rfl) ?_
                              conv => whnf
                              refine And.intro (by (simp only [wrap_i64, wrap_u64, wrap_u32, wrap_u16, wrap_u8, maxLen_eq, mmI] at *; omega)) ?_
                              conv => whnf
                              refine And.intro (by with_reducible rfl) ?_
                              conv => whnf
                              refine And.intro (by with_reducible rfl) ?_
                              exact True.intro
                        · replace hc7 := of_decide_eq_false (Bool.not_eq_true' _ |>.mp hc7)
                          contradiction
                      · replace hc6 := of_decide_eq_false (Bool.not_eq_true' _ |>.mp hc6)
                        (exfalso; have := (tk_ok hIl0.2 (m31_b x)).next; simp only [map_rows] at *; omega)
              · replace hc4 := of_decide_eq_false (Bool.not_eq_true' _ |>.mp hc4)
                (exact absurd (tk_len0 hIl0.2 (by assumption)) (by assumption))
            · replace hc3 := of_decide_eq_true (Bool.not_eq_false' _ |>.mp hc3)
              conv => whnf
              refine br_r rfl rfl ?_
              conv => whnf
              refine br_r rfl rfl ?_
              conv => whnf
              refine br_r rfl rfl ?_
              conv => whnf
              refine br_r rfl rfl ?_
              conv => whnf
              refine br_l rfl rfl ?_
              conv => whnf
              refine br_r rfl rfl ?_
              conv => whnf
              refine br_r rfl rfl ?_
              conv => whnf
              refine br_r rfl rfl ?_
              conv => whnf
              refine loop_at (α := Nat) [] (fun j => [(56, .int .i64 (j : Int)), (4, .int .i64 (n + (j : Int)))]) (fun j => []) (fun j => j ≤ (takeI n A (m31 x)).2.2.1.length) (fun j => (takeI n A (m31 x)).2.2.1.length - j) (0) (st_of ?_) ?_ (by rintro j _; rfl) ?_
              · conv => whnf
                refine And.intro (by with_reducible rfl) ?_
                conv => whnf
                refine And.intro (by with_reducible rfl) ?_
                refine And.intro (by with_reducible rfl) ?_
                conv => whnf
                refine And.intro (by omega) ?_
                conv => whnf
                refine And.intro (by with_reducible rfl) ?_
                conv => whnf
                refine And.intro (by with_reducible rfl) ?_
                refine And.intro (by with_reducible rfl) ?_
                conv => whnf
                refine And.intro (by with_reducible rfl) ?_
                refine And.intro (by with_reducible rfl) ?_
                conv => whnf
                refine And.intro (by with_reducible rfl) ?_
                conv => whnf
                refine And.intro (by with_reducible rfl) ?_
                conv => whnf
                refine And.intro (by with_reducible rfl) ?_
                conv => whnf
                refine And.intro (by with_reducible rfl) ?_
                conv => whnf
                refine And.intro (by with_reducible rfl) ?_
                conv => whnf
                refine And.intro (by with_reducible rfl) ?_
                conv => whnf
                refine And.intro (by with_reducible rfl) ?_
                conv => whnf
                refine And.intro (by with_reducible rfl) ?_
                conv => whnf
                refine And.intro (by with_reducible rfl) ?_
                conv => whnf
                refine And.intro (by with_reducible rfl) ?_
                conv => whnf
                refine And.intro (by with_reducible rfl) ?_
                conv => whnf
                refine And.intro (by with_reducible rfl) ?_
                conv => whnf
                refine And.intro (by with_reducible rfl) ?_
                conv => whnf
                refine And.intro (by with_reducible rfl) ?_
                conv => whnf
                refine And.intro (by with_reducible rfl) ?_
                conv => whnf
                refine And.intro (by with_reducible rfl) ?_
                conv => whnf
                refine And.intro (by with_reducible rfl) ?_
                conv => whnf
                refine And.intro (by with_reducible rfl) ?_
                conv => whnf
                refine And.intro (by with_reducible rfl) ?_
                conv => whnf
                refine And.intro (by with_reducible rfl) ?_
                conv => whnf
                refine And.intro (by with_reducible rfl) ?_
                conv => whnf
                refine And.intro (by with_reducible rfl) ?_
                conv => whnf
                refine And.intro (by with_reducible rfl) ?_
                conv => whnf
                refine And.intro (by with_reducible rfl) ?_
                conv => whnf
                refine And.intro (by with_reducible rfl) ?_
                conv => whnf
                refine And.intro (by with_reducible rfl) ?_
                conv => whnf
                refine And.intro (by with_reducible rfl) ?_
                conv => whnf
                refine And.intro (by with_reducible rfl) ?_
                conv => whnf
                refine And.intro (by with_reducible rfl) ?_
                conv => whnf
                refine And.intro (by with_reducible rfl) ?_
                conv => whnf
                refine And.intro (by with_reducible rfl) ?_
                conv => whnf
                refine And.intro (by with_reducible rfl) ?_
                conv => whnf
                refine And.intro (by with_reducible rfl) ?_
                conv => whnf
                refine And.intro (by with_reducible rfl) ?_
                conv => whnf
                refine And.intro (by with_reducible rfl) ?_
                conv => whnf
                refine And.intro (by with_reducible rfl) ?_
                conv => whnf
                refine And.intro (by with_reducible rfl) ?_
                conv => whnf
                refine And.intro (by with_reducible rfl) ?_
                conv => whnf
                refine And.intro (by with_reducible rfl) ?_
                conv => whnf
                refine And.intro (by with_reducible rfl) ?_
                conv => whnf
                refine And.intro (by with_reducible rfl) ?_
                conv => whnf
                refine And.intro (by with_reducible rfl) ?_
                conv => whnf
                refine And.intro (by with_reducible rfl) ?_
                conv => whnf
                refine And.intro (by with_reducible rfl) ?_
                conv => whnf
                refine And.intro (by with_reducible rfl) ?_
                conv => whnf
                refine And.intro (by with_reducible rfl) ?_
                conv => whnf
                refine And.intro (by with_reducible rfl) ?_
                conv => whnf
                refine And.intro (by with_reducible rfl) ?_
                conv => whnf
                refine And.intro (by with_reducible rfl) ?_
                conv => whnf
                refine And.intro (by with_reducible rfl) ?_
                conv => whnf
                refine And.intro (by with_reducible rfl) ?_
                conv => whnf
                refine And.intro (by with_reducible rfl) ?_
                conv => whnf
                refine And.intro (by with_reducible rfl) ?_
                conv => whnf
                refine And.intro (by with_reducible rfl) ?_
                conv => whnf
                refine And.intro (by with_reducible rfl) ?_
                conv => whnf
                refine And.intro (by with_reducible rfl) ?_
                conv => whnf
                refine And.intro (by with_reducible rfl) ?_
                conv => whnf
                refine And.intro (by decide) ?_
                conv => whnf
                refine And.intro (by with_reducible rfl) ?_
                conv => whnf
                refine And.intro (by with_reducible rfl) ?_
                conv => whnf
                refine And.intro (by with_reducible rfl) ?_
                conv => whnf
                refine And.intro (by with_reducible rfl) ?_
                conv => whnf
                refine And.intro (by with_reducible rfl) ?_
                conv => whnf
                refine And.intro (by with_reducible rfl) ?_
                conv => whnf
                refine And.intro (by with_reducible rfl) ?_
                conv => whnf
                refine And.intro (by with_reducible rfl) ?_
                conv => whnf
                refine And.intro (by with_reducible rfl) ?_
                conv => whnf
                refine And.intro (by with_reducible rfl) ?_
                conv => whnf
                refine And.intro (by with_reducible rfl) ?_
                conv => whnf
                refine And.intro (by with_reducible rfl) ?_
                exact True.intro
              · omega
              · rintro j nextl1 hIl1 ihl1
                try dsimp only at hIl1
                conv => whnf
                refine And.intro (fun hc9 => ?_) (fun hc9 => ?_)
                · replace hc9 := of_decide_eq_true hc9
                  conv => whnf
                  refine And.intro (by omega) ?_
                  refine ex_row (l := (takeI n A (m31 x)).2.2.1) ?_ fun y hy => ?_
                  · (simp only [map_rows] at *; omega)
                  · simp only [toNat_ofNat] at hy
                    conv => whnf
                    refine And.intro (fun hc11 => ?_) (fun hc11 => ?_)
                    · replace hc11 := of_decide_eq_false (Bool.not_eq_true' _ |>.mp hc11)
                      (exact absurd ((tk_ok hIl0.2 (m31_b x)).out j y hy) (by assumption))
                    · replace hc11 := of_decide_eq_true (Bool.not_eq_false' _ |>.mp hc11)
                      conv => whnf
                      refine ihl1 (j + 1) _ ?_ ?_ (st_of ?_)
                      · (simp only [map_rows] at *; omega)
                      · (simp only [map_rows] at *; omega)
                      · conv => whnf
                        refine And.intro (by with_reducible rfl) ?_
                        conv => whnf
                        refine And.intro (by with_reducible rfl) ?_
                        refine And.intro (by with_reducible rfl) ?_
                        conv => whnf
                        refine And.intro (by (have := tk_ok hIl0.2 (m31_b x); have h1 := this.next; have h2 := this.inv.2.1; have h3 := lt_at hy; have := hIl0.2.1; rw [wrap_i64]; omega)) ?_
                        conv => whnf
                        refine And.intro (by with_reducible rfl) ?_
                        conv => whnf
                        refine And.intro (by with_reducible rfl) ?_
                        refine And.intro (by with_reducible rfl) ?_
                        conv => whnf
                        refine And.intro (by with_reducible rfl) ?_
                        refine And.intro (by with_reducible rfl) ?_
                        conv => whnf
                        refine And.intro (by with_reducible rfl) ?_
                        conv => whnf
                        refine And.intro (by with_reducible rfl) ?_
                        conv => whnf
                        refine And.intro (by with_reducible rfl) ?_
                        conv => whnf
                        refine And.intro (by with_reducible rfl) ?_
                        conv => whnf
                        refine And.intro (by with_reducible rfl) ?_
                        conv => whnf
                        refine And.intro (by with_reducible rfl) ?_
                        conv => whnf
                        refine And.intro (by with_reducible rfl) ?_
                        conv => whnf
                        refine And.intro (by with_reducible rfl) ?_
                        conv => whnf
                        refine And.intro (by with_reducible rfl) ?_
                        conv => whnf
                        refine And.intro (by with_reducible rfl) ?_
                        conv => whnf
                        refine And.intro (by with_reducible rfl) ?_
                        conv => whnf
                        refine And.intro (by with_reducible rfl) ?_
                        conv => whnf
                        refine And.intro (by with_reducible rfl) ?_
                        conv => whnf
                        refine And.intro (by with_reducible rfl) ?_
                        conv => whnf
                        refine And.intro (by with_reducible rfl) ?_
                        conv => whnf
                        refine And.intro (by with_reducible rfl) ?_
                        conv => whnf
                        refine And.intro (by with_reducible rfl) ?_
                        conv => whnf
                        refine And.intro (by with_reducible rfl) ?_
                        conv => whnf
                        refine And.intro (by with_reducible rfl) ?_
                        conv => whnf
                        refine And.intro (by with_reducible rfl) ?_
                        conv => whnf
                        refine And.intro (by with_reducible rfl) ?_
                        conv => whnf
                        refine And.intro (by with_reducible rfl) ?_
                        conv => whnf
                        refine And.intro (by with_reducible rfl) ?_
                        conv => whnf
                        refine And.intro (by with_reducible rfl) ?_
                        conv => whnf
                        refine And.intro (by with_reducible rfl) ?_
                        conv => whnf
                        refine And.intro (by with_reducible rfl) ?_
                        conv => whnf
                        refine And.intro (by with_reducible rfl) ?_
                        conv => whnf
                        refine And.intro (by with_reducible rfl) ?_
                        conv => whnf
                        refine And.intro (by with_reducible rfl) ?_
                        conv => whnf
                        refine And.intro (by with_reducible rfl) ?_
                        conv => whnf
                        refine And.intro (by with_reducible rfl) ?_
                        conv => whnf
                        refine And.intro (by with_reducible rfl) ?_
                        conv => whnf
                        refine And.intro (by with_reducible rfl) ?_
                        conv => whnf
                        refine And.intro (by with_reducible rfl) ?_
                        conv => whnf
                        refine And.intro (by with_reducible rfl) ?_
                        conv => whnf
                        refine And.intro (by with_reducible rfl) ?_
                        conv => whnf
                        refine And.intro (by with_reducible rfl) ?_
                        conv => whnf
                        refine And.intro (by with_reducible rfl) ?_
                        conv => whnf
                        refine And.intro (by with_reducible rfl) ?_
                        conv => whnf
                        refine And.intro (by with_reducible rfl) ?_
                        conv => whnf
                        refine And.intro (by with_reducible rfl) ?_
                        conv => whnf
                        refine And.intro (by with_reducible rfl) ?_
                        conv => whnf
                        refine And.intro (by with_reducible rfl) ?_
                        conv => whnf
                        refine And.intro (by with_reducible rfl) ?_
                        conv => whnf
                        refine And.intro (by with_reducible rfl) ?_
                        conv => whnf
                        refine And.intro (by with_reducible rfl) ?_
                        conv => whnf
                        refine And.intro (by with_reducible rfl) ?_
                        conv => whnf
                        refine And.intro (by with_reducible rfl) ?_
                        conv => whnf
                        refine And.intro (by with_reducible rfl) ?_
                        conv => whnf
                        refine And.intro (by with_reducible rfl) ?_
                        conv => whnf
                        refine And.intro (by with_reducible rfl) ?_
                        conv => whnf
                        refine And.intro (by with_reducible rfl) ?_
                        conv => whnf
                        refine And.intro (by with_reducible rfl) ?_
                        conv => whnf
                        refine And.intro (by with_reducible rfl) ?_
                        conv => whnf
                        refine And.intro (by with_reducible rfl) ?_
                        conv => whnf
                        refine And.intro (by with_reducible rfl) ?_
                        conv => whnf
                        refine And.intro (by with_reducible rfl) ?_
                        conv => whnf
                        refine And.intro (by (have := tk_ok hIl0.2 (m31_b x); have h1 := this.next; have h2 := this.inv.2.1; have h3 := lt_at hy; have := hIl0.2.1; rw [wrap_i64]; omega)) ?_
                        conv => whnf
                        refine And.intro (by with_reducible rfl) ?_
                        conv => whnf
                        refine And.intro (by with_reducible rfl) ?_
                        conv => whnf
                        refine And.intro (by with_reducible rfl) ?_
                        conv => whnf
                        refine And.intro (by with_reducible rfl) ?_
                        conv => whnf
                        refine And.intro (by with_reducible rfl) ?_
                        conv => whnf
                        refine And.intro (by with_reducible rfl) ?_
                        conv => whnf
                        refine And.intro (by with_reducible rfl) ?_
                        conv => whnf
                        refine And.intro (by with_reducible rfl) ?_
                        conv => whnf
                        refine And.intro (by with_reducible rfl) ?_
                        conv => whnf
                        refine And.intro (by with_reducible rfl) ?_
                        conv => whnf
                        refine And.intro (by with_reducible rfl) ?_
                        conv => whnf
                        refine And.intro (by with_reducible rfl) ?_
                        exact True.intro
                · replace hc9 := of_decide_eq_false hc9
                  conv => whnf
                  refine ⟨_, (t_bits hIl0.2), ?_⟩
                  conv => whnf
                  refine And.intro (fun hc12 => ?_) (fun hc12 => ?_)
                  · replace hc12 := of_decide_eq_true (Bool.not_eq_false' _ |>.mp hc12)
                    conv => whnf
                    refine br_l rfl rfl ?_
                    conv => whnf
                    refine br_l rfl rfl ?_
                    conv => whnf
                    refine br_r rfl rfl ?_
                    conv => whnf
                    refine And.intro (fun hc13 => ?_) (fun hc13 => ?_)
                    · replace hc13 := of_decide_eq_true (Bool.not_eq_false' _ |>.mp hc13)
                      conv => whnf
                      refine br_l rfl rfl ?_
                      conv => whnf
                      refine br_l rfl rfl ?_
                      conv => whnf
                      refine And.intro (fun hc14 => ?_) (fun hc14 => ?_)
                      · replace hc14 := of_decide_eq_true hc14
                        conv => whnf
                        refine br_l rfl rfl ?_
                        conv => whnf
                        refine br_l rfl rfl ?_
                        conv => whnf
                        refine br_l rfl rfl ?_
                        conv => whnf
                        refine br_l rfl rfl ?_
                        conv => whnf
                        refine br_l rfl rfl ?_
                        conv => whnf
                        refine ⟨_, (t_has hIl0.2) ?_, ?_⟩
                        · assumption
                        · conv => whnf
                          refine br_l rfl rfl ?_
                          conv => whnf
                          refine br_l rfl rfl ?_
                          conv => whnf
                          refine br_l rfl rfl ?_
                          conv => whnf
                          refine br_r rfl rfl ?_
                          conv => whnf
                          refine br_r rfl rfl ?_
                          conv => whnf
                          refine ihl0 ((i + 1, (takeI n A (m31 x)).1, (takeI n A (m31 x)).2.1)) _ ?_ ?_ (st_of ?_)
                          · dsimp only
                            (have := lt_at hx; exact ⟨by omega, (tk_ok hIl0.2 (m31_b x)).inv⟩)
                          · dsimp only
                            (simp only [map_rows] at *; omega)
                          · conv => whnf
                            refine And.intro (by with_reducible rfl) ?_
                            conv => whnf
                            refine And.intro (by with_reducible rfl) ?_
                            refine And.intro (by with_reducible rfl) ?_
                            conv => whnf
                            refine And.intro (by omega) ?_
                            conv => whnf
                            refine And.intro (by with_reducible rfl) ?_
                            conv => whnf
                            refine And.intro (by with_reducible rfl) ?_
                            conv => whnf
                            refine And.intro (by with_reducible rfl) ?_
                            conv => whnf
                            refine And.intro (by with_reducible rfl) ?_
                            conv => whnf
                            refine And.intro (by with_reducible rfl) ?_
                            conv => whnf
                            refine And.intro (by with_reducible rfl) ?_
                            conv => whnf
                            refine And.intro (by with_reducible rfl) ?_
                            conv => whnf
                            refine And.intro (by (simp only [wrap_i64, wrap_u64, wrap_u32, wrap_u16, wrap_u8, maxLen_eq, mmI] at *; omega)) ?_
                            conv => whnf
                            refine And.intro (by with_reducible rfl) ?_
                            conv => whnf
                            refine And.intro (by with_reducible rfl) ?_
                            exact True.intro
                      · replace hc14 := of_decide_eq_false hc14
                        contradiction
                    · replace hc13 := of_decide_eq_false (Bool.not_eq_true' _ |>.mp hc13)
                      contradiction
                  · replace hc12 := of_decide_eq_false (Bool.not_eq_true' _ |>.mp hc12)
                    (exfalso; have := (tk_ok hIl0.2 (m31_b x)).next; simp only [map_rows] at *; omega)
      · replace hc1 := of_decide_eq_false hc1
        conv => whnf
        refine ⟨_, awake16_good, ?_⟩
        conv => whnf
        refine AV.of_eqv ?_
        conv => whnf
        refine And.intro (by with_reducible rfl) ?_
        exact True.intro
end Go.Proofs.Ytkcdeefnkbbacaa

/- The law SerialRuns. -/
import Derived.Test.YtfkihagcgjombaaT15d
set_option maxRecDepth 100000
set_option linter.unusedSimpArgs false
set_option linter.unusedVariables false
namespace Go.Proofs.Ytfkihagcgjombaa
open Go.RowKit
set_option maxHeartbeats 4000000
def fw (x : Int) : Int := IntKind.i64.wrap ↑(BitVec.ofInt IntKind.i64.bits x &&& BitVec.ofInt IntKind.i64.bits 255).toNat
theorem fw_b (x : Int) : 0 ≤ fw x ∧ fw x ≤ 65535 := by
  unfold fw
  rw [BitVec.toNat_and]
  have h : (BitVec.ofInt IntKind.i64.bits x).toNat &&& (BitVec.ofInt IntKind.i64.bits 255).toNat ≤ (BitVec.ofInt IntKind.i64.bits 255).toNat := Nat.and_le_right
  rw [show (BitVec.ofInt IntKind.i64.bits 255).toNat = 255 by decide] at h ⊢
  generalize (BitVec.ofInt IntKind.i64.bits x).toNat &&& 255 = n at h ⊢
  rw [wrap_i64]
  omega
abbrev fews (l : List Int) : List Int := l.map fw
theorem fews_at {l : List Int} {i : Nat} {x : Int} (hx : l[i]? = some x) : (fews (l.take i)).map i1 ++ [[.int .i64 (IntKind.i64.wrap ↑(BitVec.ofInt IntKind.i64.bits x &&& BitVec.ofInt IntKind.i64.bits 255).toNat)]] = (fews (l.take (i + 1))).map i1 := by
  unfold fews
  rw [take_at hx, List.map_append, List.map_append]
  rfl
/-- runs that are what they should be -/
def RunsOk (out : List (Int × Int)) : Prop := ∀ p ∈ out, rtN p.1 ∧ rtN p.2 ∧ p.1 ≤ p.2
theorem rng_one {n : Int} (h : rtN n) : rng (n, n) = [n] := by
  unfold rng
  rw [if_pos ⟨h, h⟩, show ((n, n).2 + 1 - (n, n).1).toNat = 1 by show (n + 1 - n).toNat = 1; omega]
  simp [List.range_succ]
theorem rng_more {a b n : Int} (ha : rtN a) (hb : rtN b) (hn : rtN n) (hab : a ≤ b) (h : b + 1 = n) : rng (a, n) = rng (a, b) ++ [n] := by
  unfold rng
  rw [if_pos ⟨ha, hn⟩, if_pos ⟨ha, hb⟩]
  show (List.range (n + 1 - a).toNat).map _ = (List.range (b + 1 - a).toNat).map _ ++ _
  rw [show (n + 1 - a).toNat = (b + 1 - a).toNat + 1 by omega, List.range_succ, List.map_append]
  congr 1
  show [a + (((b + 1 - a).toNat : Nat) : Int)] = [n]
  congr 1
  omega
theorem rstep_ok {out : List (Int × Int)} {n : Int} (h : RunsOk out) (hn : rtN n) : RunsOk (rstep out n) ∧ (rstep out n).flatMap rng = out.flatMap rng ++ [n] := by
  unfold rstep
  split
  · rename_i p hp
    obtain ⟨pre, rfl⟩ := last_row hp
    obtain ⟨h1, h2, h3⟩ := h p (by simp)
    split
    · rename_i he
      rw [List.dropLast_concat]
      refine ⟨fun q hq => ?_, ?_⟩
      · rcases List.mem_append.1 hq with hq | hq
        · exact h q (by simp [hq])
        · rw [List.mem_singleton.1 hq]; exact ⟨h1, hn, by show p.1 ≤ n; omega⟩
      · rw [List.flatMap_append, List.flatMap_append, List.append_assoc]
        congr 1
        simp only [List.flatMap_cons, List.flatMap_nil, List.append_nil]
        exact rng_more h1 h2 hn h3 he
    · refine ⟨fun q hq => ?_, ?_⟩
      · rcases List.mem_append.1 hq with hq | hq
        · exact h q hq
        · rw [List.mem_singleton.1 hq]; exact ⟨hn, hn, Int.le_refl _⟩
      · rw [List.flatMap_append]
        congr 1
        simp only [List.flatMap_cons, List.flatMap_nil, List.append_nil]
        exact rng_one hn
  · refine ⟨fun q hq => ?_, ?_⟩
    · rcases List.mem_append.1 hq with hq | hq
      · exact h q hq
      · rw [List.mem_singleton.1 hq]; exact ⟨hn, hn, Int.le_refl _⟩
    · rw [List.flatMap_append]
      congr 1
      simp only [List.flatMap_cons, List.flatMap_nil, List.append_nil]
      exact rng_one hn
theorem rn_ok : ∀ (s : List Int) (out : List (Int × Int)), (∀ x ∈ s, rtN x) → RunsOk out → (s.foldl rstep out).flatMap rng = out.flatMap rng ++ s
  | [], out, _, _ => by simp
  | x :: s, out, hs, h => by
    obtain ⟨h1, h2⟩ := rstep_ok h (hs x (by simp))
    rw [List.foldl_cons, rn_ok s _ (fun y hy => hs y (by simp [hy])) h1, h2, List.append_assoc]
    rfl
theorem back_is {s : List Int} (hs : ∀ x ∈ s, rtN x) (hl : s.length ≤ 40) : unr (rn s) (mM 1000) = s := by
  unfold unr rn
  rw [rn_ok s [] hs (fun p hp => by simp at hp)]
  show s.take (mM 1000) = s
  exact List.take_of_length_le (by rw [show mM 1000 = 1000 by decide]; omega)
theorem S_mem {l : List Int} (hl : ∀ x ∈ l, rtN x) {x : Int} : x ∈ S l ↔ x ∈ l := by
  rw [T_mem]
  exact ⟨fun h => h.2.2, fun h => ⟨(hl x h).1, by have := (hl x h).2; omega, h⟩⟩
theorem S_rise {l : List Int} {i j : Nat} {x y : Int} (hx : (S l)[i]? = some x) (hy : (S l)[j]? = some y) (h : i < j) : x < y := by
  have hi := lt_at hx
  have hj := lt_at hy
  have := List.pairwise_iff_getElem.1 (T_rise l 65536) i j hi hj h
  rw [List.getElem?_eq_getElem hi] at hx
  rw [List.getElem?_eq_getElem hj] at hy
  rw [Option.some.inj hx, Option.some.inj hy] at this
  exact this
section
variable {l s : List Int} {i : Nat}
theorem fin_take (hi : ¬ (i : Int) < ((l.map i1).length : Nat)) : l.take i = l := List.take_of_length_le (by rw [List.length_map] at hi; omega)
theorem runsF (hb : ∀ x ∈ s, rtN x) (hr : Good Try.prog 17 [.sl .sh 1 ((fews l).map i1)] (.sl .sh 1 (s.map i1))) (hl : s.length ≤ 40) (hi : ¬ (i : Int) < ((l.map i1).length : Nat)) : Good Try.prog 10 [.sl .sh 1 ((fews (l.take i)).map i1)] (.sl .sh 2 ((rn s).map rr)) := by
  rw [fin_take hi]; exact runs_good _ s hl hb hr
theorem rrunsF (hs : s = S (fews l)) (hl : (fews l).length ≤ 40) (hi : ¬ (i : Int) < ((l.map i1).length : Nat)) : Good Try.prog 11 [.sl .sh 1 ((fews (l.take i)).map i1)] (.sl .sh 2 ((rn s).map rr)) := by
  rw [fin_take hi]; exact rruns_good _ s hl hs
end
theorem mem_c {l : List Int} {j : Nat} {x v : Int} (hx : l[j]? = some x) (hn : ¬ v ∈ l.take j) : decide (v = x) = decide (v ∈ l.take (j + 1)) := by
  rw [← mem_a hx hn rfl]
  exact decide_eq_decide.2 ⟨Eq.symm, Eq.symm⟩
theorem unr_len (l : List (Int × Int)) (M : Nat) : (unr l M).length ≤ M := by unfold unr; rw [List.length_take]; omega
theorem miss_len (n : Int) (l : List Int) : (missI n l).length ≤ 8 := by
  unfold missI
  split
  · exact ms_len n l 8
  · simp
theorem ex_row_p {α : Type} {f : α → List AV} {l : List α} {b : Nat} {K : List AV → Prop} (hi : (IntKind.i64.wrap ((b : Int) - 1)).toNat < l.length) (h : ∀ x, l[(IntKind.i64.wrap ((b : Int) - 1)).toNat]? = some x → K (f x)) : ∃ c, (l.map f)[(IntKind.i64.wrap ((b : Int) - 1)).toNat]? = some c ∧ K c := ex_row hi h
abbrev bk (s : List Int) : List Int := unr (rn s) (mM 1000)
section
variable {l s : List Int} {i b j : Nat} {y z : Int}
theorem bk_in (hs : s = S (fews l)) (hfr : ∀ x ∈ fews l, rtN x) (hsr : ∀ x ∈ s, rtN x) (hsl : s.length ≤ 40) (hi : ¬ (i : Int) < ((l.map i1).length : Nat)) (hy : (bk s)[b]? = some y) (hj : ¬ (j : Int) < (((fews (l.take i)).map i1).length : Nat)) : y ∈ (fews (l.take i)).take j := by
  rw [msr_all hj, fin_take hi]
  have := List.mem_of_getElem? hy
  unfold bk at this
  rw [back_is hsr hsl, hs] at this
  exact (S_mem hfr).1 this
theorem bk_up (hs : s = S (fews l)) (hsr : ∀ x ∈ s, rtN x) (hsl : s.length ≤ 40) (hb : 0 < (b : Int)) (hb2 : b ≤ 40) (hy : (bk s)[b]? = some y) (hz : (bk s)[(IntKind.i64.wrap ((b : Int) - 1)).toNat]? = some z) : ¬ y ≤ z := by
  unfold bk at hy hz
  rw [back_is hsr hsl, hs] at hy hz
  have := S_rise hz hy (by rw [wrap_i64]; omega)
  omega
theorem bk_all (hs : s = S (fews l)) (hfr : ∀ x ∈ fews l, rtN x) (hsr : ∀ x ∈ s, rtN x) (hsl : s.length ≤ 40) (hi : ¬ (i : Int) < ((l.map i1).length : Nat)) (hy : (fews (l.take i))[b]? = some y) (hj : ¬ (j : Int) < (((bk s).map i1).length : Nat)) : y ∈ (bk s).take j := by
  rw [msr_all hj]
  rw [fin_take hi] at hy
  have := List.mem_of_getElem? hy
  unfold bk
  rw [back_is hsr hsl, hs]
  exact (S_mem hfr).2 this
theorem bk_idx (h : (b : Int) < (((unr (rn s) (mM 1000)).map i1).length : Nat)) : ((b : Int)).toNat < (bk s).length := by
  rw [List.length_map] at h
  show _ < (unr (rn s) (mM 1000)).length
  omega
theorem bk_len (hsr : ∀ x ∈ s, rtN x) (hsl : s.length ≤ 40) : (bk s).length ≤ 40 := by unfold bk; rw [back_is hsr hsl]; exact hsl
end
theorem serialRuns_good (l : List Int) (rs : List (Int × Int)) (n0 n1 : Int) (s : List Int) (hs : s = S (fews l)) (hr : Good Try.prog 17 [.sl .sh 1 ((fews l).map i1)] (.sl .sh 1 (s.map i1))) (h40 : l.length ≤ 40) : Good Try.prog 4 [.sl .sh 1 (l.map i1), .sl .sh 2 (rs.map rr), .agg [.int .i64 n0, .int .i64 n1]] (.bool true) := by
  have hfr : ∀ x ∈ fews l, rtN x := fun x hx => by obtain ⟨y, _, rfl⟩ := List.mem_map.1 hx; exact fw_b y
  have hfl : (fews l).length = l.length := List.length_map fw
  have hsl : s.length ≤ l.length := by rw [hs, ← hfl]; exact T_len _ _
  have hsr : ∀ x ∈ s, rtN x := fun x hx => hfr x ((S_mem hfr).1 (hs ▸ hx))
  have hsl4 : s.length ≤ 40 := by omega
  · have hbl := bk_len hsr hsl4
    have hrl := rn_le s
    have hmm := mM_le n0
    have hu0 := unr_len rs (mM n0)
    have hm1 := miss_len n1 l
    apply good_at ak4 rfl rfl rfl
    conv => whnf
    refine And.intro (fun hc0 => ?_) (fun hc0 => ?_)
    · replace hc0 := of_decide_eq_false hc0
      conv => whnf
      refine br_l rfl rfl ?_
      conv => whnf
      refine br_l rfl rfl ?_
      conv => whnf
      refine br_r rfl rfl ?_
      conv => whnf
      refine And.intro (fun hc1 => ?_) (fun hc1 => ?_)
      · replace hc1 := of_decide_eq_true hc1
        conv => whnf
        refine ⟨_, awake15_good, ?_⟩
        conv => whnf
        refine AV.of_eqv ?_
        conv => whnf
        refine And.intro (by with_reducible rfl) ?_
        exact True.intro
      · replace hc1 := of_decide_eq_false hc1
        conv => whnf
        refine loop_at (α := Nat) [] (fun i => [(39, .int .i64 (i : Int)), (7, .sl .own 1 ((fews (l.take i)).map i1))]) (fun i => []) (fun i => i ≤ l.length) (fun i => l.length - i) (0) (st_of ?_) ?_ (by rintro i _; rfl) ?_
        · conv => whnf
          refine And.intro (by with_reducible rfl) ?_
          conv => whnf
          refine And.intro (by with_reducible rfl) ?_
          conv => whnf
          refine And.intro (by with_reducible rfl) ?_
          refine And.intro (by with_reducible rfl) ?_
          conv => whnf
          refine And.intro (by (simp; done)) ?_
          conv => whnf
          refine And.intro (by with_reducible rfl) ?_
          conv => whnf
          refine And.intro (by with_reducible rfl) ?_
          conv => whnf
          refine And.intro (by decide) ?_
          conv => whnf
          refine And.intro (by with_reducible rfl) ?_
          conv => whnf
          refine And.intro (by with_reducible rfl) ?_
          exact True.intro
        · omega
        · rintro i nextl0 hIl0 ihl0
          try dsimp only at hIl0
          conv => whnf
          refine And.intro (fun hc2 => ?_) (fun hc2 => ?_)
          · replace hc2 := of_decide_eq_true hc2
            conv => whnf
            refine And.intro (by omega) ?_
            refine ex_row (l := l) ?_ fun x hx => ?_
            · (clear ihl0; simp only [map_rows] at *; omega)
            · simp only [toNat_ofNat] at hx
              conv => whnf
              refine And.intro (by (simp; done)) ?_
              refine And.intro (by (have := lt_at hx; simp only [fews, List.length_map, maxLen_eq, List.length_singleton, List.length_take]; omega)) ?_
              refine And.intro (by (have := lt_at hx; simp only [fews, List.length_map, maxLen_eq, List.length_singleton, List.length_take]; omega)) ?_
              conv => whnf
              refine ihl0 (i + 1) _ ?_ ?_ (st_of ?_)
              · (have := lt_at hx; omega)
              · (have := lt_at hx; omega)
              · conv => whnf
                refine And.intro (by with_reducible rfl) ?_
                conv => whnf
                refine And.intro (by with_reducible rfl) ?_
                conv => whnf
                refine And.intro (by with_reducible rfl) ?_
                refine And.intro (by with_reducible rfl) ?_
                conv => whnf
                refine And.intro (by exact fews_at hx) ?_
                conv => whnf
                refine And.intro (by with_reducible rfl) ?_
                conv => whnf
                refine And.intro (by with_reducible rfl) ?_
                conv => whnf
                refine And.intro (by (have := lt_at hx; simp only [wrap_i64]; omega)) ?_
                conv => whnf
                refine And.intro (by with_reducible rfl) ?_
                conv => whnf
                refine And.intro (by with_reducible rfl) ?_
                exact True.intro
          · replace hc2 := of_decide_eq_false hc2
            conv => whnf
            refine ⟨_, (runsF hsr hr) ?_ ?_, ?_⟩
            · assumption
            · assumption
            · conv => whnf
              refine ⟨_, (rrunsF hs) ?_ ?_, ?_⟩
              · omega
              · assumption
              · conv => whnf
                refine And.intro (by exact rfl) ?_
                conv => whnf
                refine And.intro (by decide) ?_
                refine And.intro (by decide) ?_
                conv => whnf
                refine ⟨_, (sunruns_good _ _) ?_, ?_⟩
                · (clear ihl0; simp only [map_rows] at *; omega)
                · conv => whnf
                  refine And.intro (by decide) ?_
                  refine And.intro (by decide) ?_
                  conv => whnf
                  refine ⟨_, (runruns_good _ _) ?_, ?_⟩
                  · (clear ihl0; simp only [map_rows] at *; omega)
                  · conv => whnf
                    refine And.intro (by exact rfl) ?_
                    conv => whnf
                    refine And.intro (by decide) ?_
                    refine And.intro (by decide) ?_
                    conv => whnf
                    refine ⟨_, (missing_good _ _) ?_, ?_⟩
                    · omega
                    · conv => whnf
                      refine And.intro (by decide) ?_
                      refine And.intro (by decide) ?_
                      conv => whnf
                      refine ⟨_, (rmissing_good _ _) ?_, ?_⟩
                      · omega
                      · conv => whnf
                        refine And.intro (fun hc4 => ?_) (fun hc4 => ?_)
                        · replace hc4 := of_decide_eq_true (Bool.not_eq_false' _ |>.mp hc4)
                          conv => whnf
                          refine br_l rfl rfl ?_
                          conv => whnf
                          refine br_l rfl rfl ?_
                          conv => whnf
                          refine ⟨_, (ints_good _ _) ?_ ?_, ?_⟩
                          · omega
                          · omega
                          · conv => whnf
                            refine br_l rfl rfl ?_
                            conv => whnf
                            refine br_r rfl rfl ?_
                            conv => whnf
                            refine And.intro (fun hc5 => ?_) (fun hc5 => ?_)
                            · replace hc5 := of_decide_eq_true (Bool.not_eq_false' _ |>.mp hc5)
                              conv => whnf
                              refine br_l rfl rfl ?_
                              conv => whnf
                              refine br_l rfl rfl ?_
                              conv => whnf
                              refine ⟨_, (ints_good _ _) ?_ ?_, ?_⟩
                              · omega
                              · omega
                              · conv => whnf
                                refine br_l rfl rfl ?_
                                conv => whnf
                                refine br_r rfl rfl ?_
                                conv => whnf
                                refine And.intro (fun hc6 => ?_) (fun hc6 => ?_)
                                · replace hc6 := of_decide_eq_false (Bool.not_eq_true' _ |>.mp hc6)
                                  contradiction
                                · replace hc6 := of_decide_eq_true (Bool.not_eq_false' _ |>.mp hc6)
                                  conv => whnf
                                  refine loop_at (α := Nat) [] (fun a => [(88, .int .i64 (a : Int))]) (fun a => []) (fun a => a ≤ (rn s).length) (fun a => (rn s).length - a) (0) (st_of ?_) ?_ (by rintro a _; rfl) ?_
                                  · conv => whnf
                                    refine And.intro (by with_reducible rfl) ?_
                                    conv => whnf
                                    refine And.intro (by with_reducible rfl) ?_
                                    conv => whnf
                                    refine And.intro (by with_reducible rfl) ?_
                                    conv => whnf
                                    refine And.intro (by with_reducible rfl) ?_
                                    conv => whnf
                                    refine And.intro (by decide) ?_
                                    conv => whnf
                                    refine And.intro (by with_reducible rfl) ?_
                                    conv => whnf
                                    refine And.intro (by with_reducible rfl) ?_
                                    exact True.intro
                                  · omega
                                  · rintro a nextl1 hIl1 ihl1
                                    try dsimp only at hIl1
                                    conv => whnf
                                    refine And.intro (fun hc7 => ?_) (fun hc7 => ?_)
                                    · replace hc7 := of_decide_eq_true hc7
                                      conv => whnf
                                      refine And.intro (by exact rfl) ?_
                                      conv => whnf
                                      refine And.intro (by omega) ?_
                                      refine ex_row (l := rn s) ?_ fun p hp => ?_
                                      · (clear ihl0; simp only [map_rows] at *; omega)
                                      · simp only [toNat_ofNat] at hp
                                        conv => whnf
                                        refine And.intro (by omega) ?_
                                        refine ex_row_r (f := rr) hp ?_
                                        conv => whnf
                                        refine And.intro (fun hc10 => ?_) (fun hc10 => ?_)
                                        · simp only [Bool.not_eq_true', Bool.not_eq_false', Bool.and_eq_true, Bool.and_eq_false_imp, Bool.or_eq_true, Bool.or_eq_false_iff, Bool.and_true, Bool.true_and, Bool.not_true, Bool.not_false, decide_eq_true_eq, decide_eq_false_iff_not, Bool.decide_and] at hc10
                                          contradiction
                                        · simp only [Bool.not_eq_true', Bool.not_eq_false', Bool.and_eq_true, Bool.and_eq_false_imp, Bool.or_eq_true, Bool.or_eq_false_iff, Bool.and_true, Bool.true_and, Bool.not_true, Bool.not_false, decide_eq_true_eq, decide_eq_false_iff_not, Bool.decide_and] at hc10
                                          conv => whnf
                                          refine ihl1 (a + 1) _ ?_ ?_ (st_of ?_)
                                          · (have := lt_at hp; omega)
                                          · (have := lt_at hp; omega)
                                          · conv => whnf
                                            refine And.intro (by with_reducible rfl) ?_
                                            conv => whnf
                                            refine And.intro (by with_reducible rfl) ?_
                                            conv => whnf
                                            refine And.intro (by with_reducible rfl) ?_
                                            conv => whnf
                                            refine And.intro (by with_reducible rfl) ?_
                                            conv => whnf
                                            refine And.intro (by (have := lt_at hp; simp only [wrap_i64]; omega)) ?_
                                            conv => whnf
                                            refine And.intro (by with_reducible rfl) ?_
                                            conv => whnf
                                            refine And.intro (by with_reducible rfl) ?_
                                            exact True.intro
                                    · replace hc7 := of_decide_eq_false hc7
                                      conv => whnf
                                      refine ⟨_, (sunruns_good _ _) ?_, ?_⟩
                                      · omega
                                      · conv => whnf
                                        refine loop_at (α := Nat) [] (fun b => [(105, .int .i64 (b : Int))]) (fun b => []) (fun b => b ≤ (bk s).length) (fun b => (bk s).length - b) (0) (st_of ?_) ?_ (by rintro b _; rfl) ?_
                                        · conv => whnf
                                          refine And.intro (by with_reducible rfl) ?_
                                          conv => whnf
                                          refine And.intro (by with_reducible rfl) ?_
                                          conv => whnf
                                          refine And.intro (by with_reducible rfl) ?_
                                          conv => whnf
                                          refine And.intro (by with_reducible rfl) ?_
                                          conv => whnf
                                          refine And.intro (by decide) ?_
                                          conv => whnf
                                          refine And.intro (by with_reducible rfl) ?_
                                          conv => whnf
                                          refine And.intro (by with_reducible rfl) ?_
                                          exact True.intro
                                        · omega
                                        · rintro b nextl2 hIl2 ihl2
                                          try dsimp only at hIl2
                                          conv => whnf
                                          refine And.intro (fun hc11 => ?_) (fun hc11 => ?_)
                                          · replace hc11 := of_decide_eq_true hc11
                                            conv => whnf
                                            refine And.intro (by omega) ?_
                                            refine ex_row (l := bk s) ?_ fun y hy => ?_
                                            · exact bk_idx (by assumption)
                                            · simp only [toNat_ofNat] at hy
                                              conv => whnf
                                              refine loop_at (α := Nat) [] (fun j => [(112, .int .i64 (j : Int)), (20, .bool (decide (y ∈ (fews (l.take i)).take j)))]) (fun j => []) (fun j => j ≤ (fews (l.take i)).length) (fun j => (fews (l.take i)).length - j) (0) (st_of ?_) ?_ (by rintro j _; rfl) ?_
                                              · conv => whnf
                                                refine And.intro (by with_reducible rfl) ?_
                                                conv => whnf
                                                refine And.intro (by with_reducible rfl) ?_
                                                conv => whnf
                                                refine And.intro (by with_reducible rfl) ?_
                                                conv => whnf
                                                refine And.intro (by with_reducible rfl) ?_
                                                conv => whnf
                                                refine And.intro (by (simp; done)) ?_
                                                conv => whnf
                                                refine And.intro (by with_reducible rfl) ?_
                                                conv => whnf
                                                refine And.intro (by with_reducible rfl) ?_
                                                conv => whnf
                                                refine And.intro (by with_reducible rfl) ?_
                                                conv => whnf
                                                refine And.intro (by with_reducible rfl) ?_
                                                conv => whnf
                                                refine And.intro (by with_reducible rfl) ?_
                                                conv => whnf
                                                refine And.intro (by decide) ?_
                                                conv => whnf
                                                refine And.intro (by with_reducible rfl) ?_
                                                conv => whnf
                                                refine And.intro (by with_reducible rfl) ?_
                                                exact True.intro
                                              · omega
                                              · rintro j nextl3 hIl3 ihl3
                                                try dsimp only at hIl3
                                                conv => whnf
                                                refine And.intro (fun hc13 => ?_) (fun hc13 => ?_)
                                                · replace hc13 := of_decide_eq_true hc13
                                                  conv => whnf
                                                  refine And.intro (by omega) ?_
                                                  refine ex_row (l := fews (l.take i)) ?_ fun u hu => ?_
                                                  · (clear ihl0; simp only [map_rows] at *; omega)
                                                  · simp only [toNat_ofNat] at hu
                                                    conv => whnf
                                                    refine And.intro (fun hc15 => ?_) (fun hc15 => ?_)
                                                    · replace hc15 := of_decide_eq_false hc15
                                                      conv => whnf
                                                      refine br_l rfl rfl ?_
                                                      conv => whnf
                                                      refine br_l rfl rfl ?_
                                                      conv => whnf
                                                      refine br_r rfl rfl ?_
                                                      conv => whnf
                                                      refine ihl3 (j + 1) _ ?_ ?_ (st_of ?_)
                                                      · (have := lt_at hu; omega)
                                                      · (have := lt_at hu; omega)
                                                      · conv => whnf
                                                        refine And.intro (by with_reducible rfl) ?_
                                                        conv => whnf
                                                        refine And.intro (by with_reducible rfl) ?_
                                                        conv => whnf
                                                        refine And.intro (by with_reducible rfl) ?_
                                                        conv => whnf
                                                        refine And.intro (by with_reducible rfl) ?_
                                                        conv => whnf
                                                        refine And.intro (by exact mem_a hu (by assumption) rfl) ?_
                                                        conv => whnf
                                                        refine And.intro (by with_reducible rfl) ?_
                                                        conv => whnf
                                                        refine And.intro (by with_reducible rfl) ?_
                                                        conv => whnf
                                                        refine And.intro (by with_reducible rfl) ?_
                                                        conv => whnf
                                                        refine And.intro (by with_reducible rfl) ?_
                                                        conv => whnf
                                                        refine And.intro (by with_reducible rfl) ?_
                                                        conv => whnf
                                                        refine And.intro (by (have := lt_at hu; simp only [fews, List.length_map, List.length_take] at this; simp only [wrap_i64]; omega)) ?_
                                                        conv => whnf
                                                        refine And.intro (by with_reducible rfl) ?_
                                                        conv => whnf
                                                        refine And.intro (by with_reducible rfl) ?_
                                                        exact True.intro
                                                    · replace hc15 := of_decide_eq_true hc15
                                                      conv => whnf
                                                      refine br_r rfl rfl ?_
                                                      conv => whnf
                                                      refine br_r rfl rfl ?_
                                                      conv => whnf
                                                      refine br_l rfl rfl ?_
                                                      conv => whnf
                                                      refine ihl3 (j + 1) _ ?_ ?_ (st_of ?_)
                                                      · (have := lt_at hu; omega)
                                                      · (have := lt_at hu; omega)
                                                      · conv => whnf
                                                        refine And.intro (by with_reducible rfl) ?_
                                                        conv => whnf
                                                        refine And.intro (by with_reducible rfl) ?_
                                                        conv => whnf
                                                        refine And.intro (by with_reducible rfl) ?_
                                                        conv => whnf
                                                        refine And.intro (by with_reducible rfl) ?_
                                                        conv => whnf
                                                        refine And.intro (by exact mem_b hu (by assumption)) ?_
                                                        conv => whnf
                                                        refine And.intro (by with_reducible rfl) ?_
                                                        conv => whnf
                                                        refine And.intro (by with_reducible rfl) ?_
                                                        conv => whnf
                                                        refine And.intro (by with_reducible rfl) ?_
                                                        conv => whnf
                                                        refine And.intro (by with_reducible rfl) ?_
                                                        conv => whnf
                                                        refine And.intro (by with_reducible rfl) ?_
                                                        conv => whnf
                                                        refine And.intro (by (have := lt_at hu; simp only [fews, List.length_map, List.length_take] at this; simp only [wrap_i64]; omega)) ?_
                                                        conv => whnf
                                                        refine And.intro (by with_reducible rfl) ?_
                                                        conv => whnf
                                                        refine And.intro (by with_reducible rfl) ?_
                                                        exact True.intro
                                                · replace hc13 := of_decide_eq_false hc13
                                                  conv => whnf
                                                  refine And.intro (fun hc16 => ?_) (fun hc16 => ?_)
                                                  · replace hc16 := of_decide_eq_true (Bool.not_eq_false' _ |>.mp hc16)
                                                    conv => whnf
                                                    refine br_l rfl rfl ?_
                                                    conv => whnf
                                                    refine br_l rfl rfl ?_
                                                    conv => whnf
                                                    refine And.intro (fun hc17 => ?_) (fun hc17 => ?_)
                                                    · replace hc17 := of_decide_eq_true hc17
                                                      conv => whnf
                                                      refine br_l rfl rfl ?_
                                                      conv => whnf
                                                      refine br_l rfl rfl ?_
                                                      conv => whnf
                                                      refine br_l rfl rfl ?_
                                                      conv => whnf
                                                      refine br_l rfl rfl ?_
                                                      conv => whnf
                                                      refine And.intro (by (have := lt_at hy; simp only [wrap_i64]; omega)) ?_
                                                      refine ex_row_p (l := bk s) ?_ fun z hz => ?_
                                                      · (have := lt_at hy; simp only [wrap_i64]; omega)
                                                      · conv => whnf
                                                        refine br_l rfl rfl ?_
                                                        conv => whnf
                                                        refine br_l rfl rfl ?_
                                                        conv => whnf
                                                        refine br_l rfl rfl ?_
                                                        conv => whnf
                                                        refine br_l rfl rfl ?_
                                                        conv => whnf
                                                        refine br_r rfl rfl ?_
                                                        conv => whnf
                                                        refine And.intro (fun hc19 => ?_) (fun hc19 => ?_)
                                                        · replace hc19 := of_decide_eq_true hc19
                                                          exact absurd (by assumption) (bk_up hs hsr hsl4 (by assumption) (by have := lt_at hy; omega) hy hz)
                                                        · replace hc19 := of_decide_eq_false hc19
                                                          conv => whnf
                                                          refine ihl2 (b + 1) _ ?_ ?_ (st_of ?_)
                                                          · exact bk_idx (by assumption)
                                                          · (have := lt_at hy; omega)
                                                          · conv => whnf
                                                            refine And.intro (by with_reducible rfl) ?_
                                                            conv => whnf
                                                            refine And.intro (by with_reducible rfl) ?_
                                                            conv => whnf
                                                            refine And.intro (by with_reducible rfl) ?_
                                                            conv => whnf
                                                            refine And.intro (by with_reducible rfl) ?_
                                                            conv => whnf
                                                            refine And.intro (by (have := lt_at hy; simp only [wrap_i64]; omega)) ?_
                                                            conv => whnf
                                                            refine And.intro (by with_reducible rfl) ?_
                                                            conv => whnf
                                                            refine And.intro (by with_reducible rfl) ?_
                                                            exact True.intro
                                                    · replace hc17 := of_decide_eq_false hc17
                                                      conv => whnf
                                                      refine br_r rfl rfl ?_
                                                      conv => whnf
                                                      refine br_r rfl rfl ?_
                                                      conv => whnf
                                                      refine br_r rfl rfl ?_
                                                      conv => whnf
                                                      refine br_r rfl rfl ?_
                                                      conv => whnf
                                                      refine br_r rfl rfl ?_
                                                      conv => whnf
                                                      refine br_r rfl rfl ?_
                                                      conv => whnf
                                                      refine br_l rfl rfl ?_
                                                      conv => whnf
                                                      refine br_r rfl rfl ?_
                                                      conv => whnf
                                                      refine br_r rfl rfl ?_
                                                      conv => whnf
                                                      refine br_r rfl rfl ?_
                                                      conv => whnf
                                                      refine ihl2 (b + 1) _ ?_ ?_ (st_of ?_)
                                                      · exact bk_idx (by assumption)
                                                      · (have := lt_at hy; omega)
                                                      · conv => whnf
                                                        refine And.intro (by with_reducible rfl) ?_
                                                        conv => whnf
                                                        refine And.intro (by with_reducible rfl) ?_
                                                        conv => whnf
                                                        refine And.intro (by with_reducible rfl) ?_
                                                        conv => whnf
                                                        refine And.intro (by with_reducible rfl) ?_
                                                        conv => whnf
                                                        refine And.intro (by (have := lt_at hy; simp only [wrap_i64]; omega)) ?_
                                                        conv => whnf
                                                        refine And.intro (by with_reducible rfl) ?_
                                                        conv => whnf
                                                        refine And.intro (by with_reducible rfl) ?_
                                                        exact True.intro
                                                  · replace hc16 := of_decide_eq_false (Bool.not_eq_true' _ |>.mp hc16)
                                                    exact absurd (bk_in hs hfr hsr hsl4 (by assumption) hy (by assumption)) (by assumption)
                                          · replace hc11 := of_decide_eq_false hc11
                                            conv => whnf
                                            refine loop_at (α := Nat) [] (fun c => [(141, .int .i64 (c : Int))]) (fun c => []) (fun c => c ≤ (fews (l.take i)).length) (fun c => (fews (l.take i)).length - c) (0) (st_of ?_) ?_ (by rintro c _; rfl) ?_
                                            · conv => whnf
                                              refine And.intro (by with_reducible rfl) ?_
                                              conv => whnf
                                              refine And.intro (by with_reducible rfl) ?_
                                              conv => whnf
                                              refine And.intro (by with_reducible rfl) ?_
                                              conv => whnf
                                              refine And.intro (by decide) ?_
                                              conv => whnf
                                              refine And.intro (by with_reducible rfl) ?_
                                              conv => whnf
                                              refine And.intro (by with_reducible rfl) ?_
                                              exact True.intro
                                            · omega
                                            · rintro c nextl4 hIl4 ihl4
                                              try dsimp only at hIl4
                                              conv => whnf
                                              refine And.intro (fun hc20 => ?_) (fun hc20 => ?_)
                                              · replace hc20 := of_decide_eq_true hc20
                                                conv => whnf
                                                refine And.intro (by omega) ?_
                                                refine ex_row (l := fews (l.take i)) ?_ fun u hu => ?_
                                                · (clear ihl0; simp only [map_rows] at *; omega)
                                                · simp only [toNat_ofNat] at hu
                                                  conv => whnf
                                                  refine loop_at (α := Nat) [] (fun d => [(147, .int .i64 (d : Int)), (25, .bool (decide (u ∈ (bk s).take d)))]) (fun d => []) (fun d => d ≤ (bk s).length) (fun d => (bk s).length - d) (0) (st_of ?_) ?_ (by rintro d _; rfl) ?_
                                                  · conv => whnf
                                                    refine And.intro (by with_reducible rfl) ?_
                                                    conv => whnf
                                                    refine And.intro (by with_reducible rfl) ?_
                                                    conv => whnf
                                                    refine And.intro (by (simp; done)) ?_
                                                    conv => whnf
                                                    refine And.intro (by with_reducible rfl) ?_
                                                    conv => whnf
                                                    refine And.intro (by with_reducible rfl) ?_
                                                    conv => whnf
                                                    refine And.intro (by with_reducible rfl) ?_
                                                    conv => whnf
                                                    refine And.intro (by with_reducible rfl) ?_
                                                    conv => whnf
                                                    refine And.intro (by with_reducible rfl) ?_
                                                    conv => whnf
                                                    refine And.intro (by decide) ?_
                                                    conv => whnf
                                                    refine And.intro (by with_reducible rfl) ?_
                                                    conv => whnf
                                                    refine And.intro (by with_reducible rfl) ?_
                                                    exact True.intro
                                                  · omega
                                                  · rintro d nextl5 hIl5 ihl5
                                                    try dsimp only at hIl5
                                                    conv => whnf
                                                    refine And.intro (fun hc22 => ?_) (fun hc22 => ?_)
                                                    · replace hc22 := of_decide_eq_true hc22
                                                      conv => whnf
                                                      refine And.intro (by omega) ?_
                                                      refine ex_row (l := bk s) ?_ fun y hy => ?_
                                                      · omega
                                                      · simp only [toNat_ofNat] at hy
                                                        conv => whnf
                                                        refine And.intro (fun hc24 => ?_) (fun hc24 => ?_)
                                                        · replace hc24 := of_decide_eq_false hc24
                                                          conv => whnf
                                                          refine br_l rfl rfl ?_
                                                          conv => whnf
                                                          refine br_l rfl rfl ?_
                                                          conv => whnf
                                                          refine br_r rfl rfl ?_
                                                          conv => whnf
                                                          refine ihl5 (d + 1) _ ?_ ?_ (st_of ?_)
                                                          · omega
                                                          · omega
                                                          · conv => whnf
                                                            refine And.intro (by with_reducible rfl) ?_
                                                            conv => whnf
                                                            refine And.intro (by with_reducible rfl) ?_
                                                            conv => whnf
                                                            refine And.intro (by exact mem_c hy (by assumption)) ?_
                                                            conv => whnf
                                                            refine And.intro (by with_reducible rfl) ?_
                                                            conv => whnf
                                                            refine And.intro (by with_reducible rfl) ?_
                                                            conv => whnf
                                                            refine And.intro (by with_reducible rfl) ?_
                                                            conv => whnf
                                                            refine And.intro (by with_reducible rfl) ?_
                                                            conv => whnf
                                                            refine And.intro (by with_reducible rfl) ?_
                                                            conv => whnf
                                                            refine And.intro (by (have := lt_at hu; simp only [fews, List.length_map, List.length_take] at this; simp only [wrap_i64]; omega)) ?_
                                                            conv => whnf
                                                            refine And.intro (by with_reducible rfl) ?_
                                                            conv => whnf
                                                            refine And.intro (by with_reducible rfl) ?_
                                                            exact True.intro
                                                        · replace hc24 := of_decide_eq_true hc24
                                                          conv => whnf
                                                          refine br_r rfl rfl ?_
                                                          conv => whnf
                                                          refine br_r rfl rfl ?_
                                                          conv => whnf
                                                          refine br_l rfl rfl ?_
                                                          conv => whnf
                                                          refine ihl5 (d + 1) _ ?_ ?_ (st_of ?_)
                                                          · omega
                                                          · omega
                                                          · conv => whnf
                                                            refine And.intro (by with_reducible rfl) ?_
                                                            conv => whnf
                                                            refine And.intro (by with_reducible rfl) ?_
                                                            conv => whnf
                                                            refine And.intro (by exact mem_b hy (by assumption)) ?_
                                                            conv => whnf
                                                            refine And.intro (by with_reducible rfl) ?_
                                                            conv => whnf
                                                            refine And.intro (by with_reducible rfl) ?_
                                                            conv => whnf
                                                            refine And.intro (by with_reducible rfl) ?_
                                                            conv => whnf
                                                            refine And.intro (by with_reducible rfl) ?_
                                                            conv => whnf
                                                            refine And.intro (by with_reducible rfl) ?_
                                                            conv => whnf
                                                            refine And.intro (by (have := lt_at hu; simp only [fews, List.length_map, List.length_take] at this; simp only [wrap_i64]; omega)) ?_
                                                            conv => whnf
                                                            refine And.intro (by with_reducible rfl) ?_
                                                            conv => whnf
                                                            refine And.intro (by with_reducible rfl) ?_
                                                            exact True.intro
                                                    · replace hc22 := of_decide_eq_false hc22
                                                      conv => whnf
                                                      refine And.intro (fun hc25 => ?_) (fun hc25 => ?_)
                                                      · replace hc25 := of_decide_eq_false (Bool.not_eq_true' _ |>.mp hc25)
                                                        exact absurd (bk_all hs hfr hsr hsl4 (by assumption) hu (by assumption)) (by assumption)
                                                      · replace hc25 := of_decide_eq_true (Bool.not_eq_false' _ |>.mp hc25)
                                                        conv => whnf
                                                        refine ihl4 (c + 1) _ ?_ ?_ (st_of ?_)
                                                        · (have := lt_at hu; omega)
                                                        · (have := lt_at hu; omega)
                                                        · conv => whnf
                                                          refine And.intro (by with_reducible rfl) ?_
                                                          conv => whnf
                                                          refine And.intro (by with_reducible rfl) ?_
                                                          conv => whnf
                                                          refine And.intro (by with_reducible rfl) ?_
                                                          conv => whnf
                                                          refine And.intro (by (have := lt_at hu; simp only [fews, List.length_map, List.length_take] at this; simp only [wrap_i64]; omega)) ?_
                                                          conv => whnf
                                                          refine And.intro (by with_reducible rfl) ?_
                                                          conv => whnf
                                                          refine And.intro (by with_reducible rfl) ?_
                                                          exact True.intro
                                              · replace hc20 := of_decide_eq_false hc20
                                                conv => whnf
                                                refine ⟨_, awake15_good, ?_⟩
                                                conv => whnf
                                                refine AV.of_eqv ?_
                                                conv => whnf
                                                refine And.intro (by with_reducible rfl) ?_
                                                exact True.intro
                            · replace hc5 := of_decide_eq_false (Bool.not_eq_true' _ |>.mp hc5)
                              contradiction
                        · replace hc4 := of_decide_eq_false (Bool.not_eq_true' _ |>.mp hc4)
                          contradiction
    · replace hc0 := of_decide_eq_true hc0
      conv => whnf
      refine br_r rfl rfl ?_
      conv => whnf
      refine br_r rfl rfl ?_
      conv => whnf
      refine br_l rfl rfl ?_
      conv => whnf
      refine br_l rfl rfl ?_
      conv => whnf
      refine ⟨_, awake15_good, ?_⟩
      conv => whnf
      refine AV.of_eqv ?_
      conv => whnf
      refine And.intro (by with_reducible rfl) ?_
      exact True.intro
theorem serialRuns_long (l : List Int) (rs : List (Int × Int)) (n0 n1 : Int) (h40 : ¬ l.length ≤ 40) : Good Try.prog 4 [.sl .sh 1 (l.map i1), .sl .sh 2 (rs.map rr), .agg [.int .i64 n0, .int .i64 n1]] (.bool true) := by
  apply good_at ak4 rfl rfl rfl
  conv => whnf
  refine And.intro (fun hc0 => ?_) (fun hc0 => ?_)
  · replace hc0 := of_decide_eq_false hc0
    (exfalso; simp only [map_rows] at *; omega)
  · replace hc0 := of_decide_eq_true hc0
    conv => whnf
    refine br_r rfl rfl ?_
    conv => whnf
    refine br_r rfl rfl ?_
    conv => whnf
    refine br_l rfl rfl ?_
    conv => whnf
    refine br_l rfl rfl ?_
    conv => whnf
    refine ⟨_, awake15_good, ?_⟩
    conv => whnf
    refine AV.of_eqv ?_
    conv => whnf
    refine And.intro (by with_reducible rfl) ?_
    exact True.intro
end Go.Proofs.Ytfkihagcgjombaa

/- The contract of hello.Bytes where the hello may be said. -/
import Derived.Test.YtkcdeefnkbbacaaHelloRs
import Derived.Deep.RegionHeld3
set_option maxRecDepth 100000
namespace Go.Proofs.Ytkcdeefnkbbacaa
open Go.RowKit

theorem size_setCells (b : Nat) : ∀ (vs : List Value) (o : Nat) (w : World), (w.setCells b o vs).heap.size = w.heap.size := by
  intro vs
  induction vs with
  | nil => intro o w; rfl
  | cons v vs ih => intro o w; rw [World.setCells, ih]; simp
theorem below_setCells {B b : Nat} {w0 : World} (hB : B ≤ b) : ∀ (vs : List Value) (o : Nat) (w : World), Below B w0 w → Below B w0 (w.setCells b o vs) := by
  intro vs
  induction vs with
  | nil => intro o w h; exact h
  | cons v vs ih => intro o w h; rw [World.setCells]; exact ih _ _ (h.setCell hB _)

/-- block g: a cell, and sixteen more -/
def Row17 (w : World) (g : Nat) (v : Value) : Prop := ∃ r : List Value, r.length = 16 ∧ RowIs w g (v :: r)
theorem Row17.keep {w w' : World} {g : Nat} {v : Value} (h : Row17 w g v) (hb : Below w.heap.size w w') : Row17 w' g v := h.imp fun _ h => ⟨h.1, h.2.keep hb⟩
theorem Row17.there {w : World} {g : Nat} {v : Value} (h : Row17 w g v) : ∀ j, j < 16 → (w.cell? ⟨g, 1 + j, none⟩).isSome = true := by
  intro j hj
  obtain ⟨r, hr, h⟩ := h
  have := h.2.1 (1 + j) _ (List.getElem?_eq_getElem (by simp; omega))
  rw [this]; rfl
theorem Row17.free {w : World} {g : Nat} {v : Value} (h : Row17 w g v) : ∀ j, j < 16 → w.frozen? ⟨g, 1 + j, none⟩ = false := by
  intro j hj
  obtain ⟨r, hr, h⟩ := h
  exact h.2.2 (1 + j) (by simp; omega)
theorem Row17.put {w : World} {g : Nat} {v : Value} (h : Row17 w g v) (vs : List Value) (hv : vs.length = 16) : RowIs (w.setCells g 1 vs) g (v :: vs) := by
  have hthere := h.there
  obtain ⟨r, hr, h⟩ := h
  refine ⟨by rw [size_setCells]; exact h.1, fun j u hj => ?_, fun j hj => ?_⟩
  · cases j with
    | zero =>
      rw [World.cell?_setCells_out]
      · exact h.2.1 0 u (by simpa using hj)
      · intro _ _; left; simp
    | succ j =>
      have hjl : j < vs.length := by
        have := (List.getElem?_eq_some_iff.1 hj).1
        simpa using this
      rw [show j + 1 = 1 + j from by omega, World.cell?_setCells_in g vs 1 w (fun k hk => hthere k (by omega)) j hjl]
      simp [hjl] at hj
      rw [hj]
  · rw [World.frozen?_setCells]
    exact h.2.2 j (by simp at hj ⊢; omega)

/-- what stays in the region: nothing below is written; block g is there -/
def HSt (w w' : World) (g : Nat) (v : Value) : Prop := Below w.heap.size w w' ∧ Row17 w' g v
theorem hst_keep {w W W' : World} {g k : Nat} {v a b c d : Value} (hb : Below W.heap.size W W') (h : HSt w W g v ∧ W.cell? ⟨k, 1, none⟩ = some a ∧ W.cell? ⟨k, 2, none⟩ = some b ∧ W.cell? ⟨k, 3, none⟩ = some c ∧ W.cell? ⟨k, 4, none⟩ = some d) :
    HSt w W' g v ∧ W'.cell? ⟨k, 1, none⟩ = some a ∧ W'.cell? ⟨k, 2, none⟩ = some b ∧ W'.cell? ⟨k, 3, none⟩ = some c ∧ W'.cell? ⟨k, 4, none⟩ = some d := by
  have lt : ∀ {o : Nat} {u : Value}, W.cell? ⟨k, o, none⟩ = some u → W'.cell? ⟨k, o, none⟩ = some u := by
    intro o u hu
    have : k < W.heap.size := by
      by_cases hk : k < W.heap.size
      · exact hk
      · simp [World.cell?, Array.getElem?_eq_none (Nat.le_of_not_lt hk)] at hu
    exact ((bcell hb).1 k o this).trans hu
  exact ⟨⟨below_step h.1.1 hb, h.1.2.keep hb⟩, lt h.2.1, lt h.2.2.1, lt h.2.2.2.1, lt h.2.2.2.2⟩

theorem hst_put {w W : World} {g k : Nat} {v a b c d : Value} (vs : List Value) (hv : vs.length = 16) (hk : k < g) (hg : w.heap.size ≤ g)
    (h : HSt w W g v ∧ W.cell? ⟨k, 1, none⟩ = some a ∧ W.cell? ⟨k, 2, none⟩ = some b ∧ W.cell? ⟨k, 3, none⟩ = some c ∧ W.cell? ⟨k, 4, none⟩ = some d) :
    HSt w (W.setCells g 1 vs) g v ∧ (W.setCells g 1 vs).cell? ⟨k, 1, none⟩ = some a ∧ (W.setCells g 1 vs).cell? ⟨k, 2, none⟩ = some b ∧ (W.setCells g 1 vs).cell? ⟨k, 3, none⟩ = some c ∧ (W.setCells g 1 vs).cell? ⟨k, 4, none⟩ = some d := by
  have lt : ∀ {o : Nat} {u : Value}, W.cell? ⟨k, o, none⟩ = some u → (W.setCells g 1 vs).cell? ⟨k, o, none⟩ = some u := by
    intro o u hu
    rw [World.cell?_setCells_out]
    · exact hu
    · intro e; simp at e; omega
  exact ⟨⟨below_setCells hg vs 1 W h.1.1, ⟨vs, hv, h.1.2.put vs hv⟩⟩, lt h.2.1, lt h.2.2.1, lt h.2.2.2.1, lt h.2.2.2.2⟩

theorem step_copy_str {P : Program} {ops : Array Oper} {o : Oper} {a : Act} {w : World} {K : Act → World → Prop} {Q : Exit → Act → World → Prop} {E : Prop}
    (hg : o.guard = none) (d x : Operand) (dT sT : TypeId) (hop : o.op = Op.call { callee := Callee.builtin Builtin.copy, args := #[d, x], argTypes := #[dT, sT] })
    (elem : TypeId) (hu : P.underlying dT = some (.slice elem)) (hz : ∀ w, (Go.sizeOf elem).run P w = .ok 1 w)
    (b off dLen dCap : Nat) (hd : a.eval d = .slice (some ⟨b, off, none⟩) dLen dCap) (l : List UInt8) (hx : a.eval x = .string (str l)) (hle : l.length ≤ dLen)
    (hc : ∀ j, j < l.length → (w.cell? ⟨b, off + j, none⟩).isSome = true) (hf : ∀ j, j < l.length → w.frozen? ⟨b, off + j, none⟩ = false)
    (hK : K (a.put o.dst (goInt l.length)) (w.setCells b off (bcells l))) :
    if Region.wanted o (yielded ops a.tmps) = true then Oper.wp P o a w K Q else E :=
  step_copy_string hg d x dT sT hop elem hu hz b off dLen dCap hd (str l) hx hle hc hf hK

/-- the hello's bytes -/
def helloB (x a b c d : Nat) : List UInt8 := UInt8.ofNat x :: pairB a b c d

set_option maxHeartbeats 1600000 in
theorem hello_yes (x a b c d : Nat) (ha : a ≤ 4294967295) (hb : b ≤ 4294967295) (hc : c ≤ 4294967295) (hd : d ≤ 4294967295) (h : rightB x a b = true) (w : World) :
    Calls Try.prog 16 #[.agg #[.int .i64 x, .int .u32 a, .int .u32 b, .int .u32 c, .int .u32 d]] w fun e w' => e = .returned (.tuple #[.string (str (helloB x a b c d)), .int .i64 0]) ∧ Below w.heap.size w w' := by
  have HB := Lib.hid ((Below.refl w.heap.size w).alloc (Nat.le_refl _) (.cells #[.int .i64 x, .int .u32 a, .int .u32 b, .int .u32 c, .int .u32 d] 28))
  have HR := Lib.hid (RowIs.new w #[.int .i64 x, .int .u32 a, .int .u32 b, .int .u32 c, .int .u32 d] 28)
  have hx : x < 16 := by simp [rightB, isNode] at h; omega
  have wx : IntKind.u8.wrap (x : Int) = (x : Int) := by
    simp only [IntKind.wrap, IntKind.signed, IntKind.bits]
    simp
    omega
  go_enter Try.func16, Try.ntmps16
  go_wp2_with (first
    | (go_at_call 20; refine (right_any x a b c d _).mono ?_; rintro e w1 ⟨rfl, hb1⟩; rw [h]; replace HB := Lib.hid (below_step HB.out hb1); replace HR := Lib.hid (HR.out.keep hb1); clear hb1
       have c0 := HR.out.2.1 0 _ rfl; have c1 := HR.out.2.1 1 _ rfl; have c2 := HR.out.2.1 2 _ rfl; have c3 := HR.out.2.1 3 _ rfl; have c4 := HR.out.2.1 4 _ rfl; have hs := HR.out.1))
  have hs : w.heap.size < w1.heap.size := HR.out.1
  have R17 := RowIs.new w1 #[.int .u8 x, .int .u8 0, .int .u8 0, .int .u8 0, .int .u8 0, .int .u8 0, .int .u8 0, .int .u8 0, .int .u8 0, .int .u8 0, .int .u8 0, .int .u8 0, .int .u8 0, .int .u8 0, .int .u8 0, .int .u8 0, .int .u8 0] 108
  have S17 : Row17 _ w1.heap.size (.int .u8 x) := ⟨_, rfl, R17⟩
  have SB := HB.out.alloc HB.out.size (.cells #[.int .u8 x, .int .u8 0, .int .u8 0, .int .u8 0, .int .u8 0, .int .u8 0, .int .u8 0, .int .u8 0, .int .u8 0, .int .u8 0, .int .u8 0, .int .u8 0, .int .u8 0, .int .u8 0, .int .u8 0, .int .u8 0, .int .u8 0] 108)
  have k1 : (w1.alloc (.cells #[.int .u8 x, .int .u8 0, .int .u8 0, .int .u8 0, .int .u8 0, .int .u8 0, .int .u8 0, .int .u8 0, .int .u8 0, .int .u8 0, .int .u8 0, .int .u8 0, .int .u8 0, .int .u8 0, .int .u8 0, .int .u8 0, .int .u8 0] 108)).cell? ⟨w.heap.size, 1, none⟩ = some (.int .u32 a) := (HR.out.under _).2.1 1 _ rfl
  have k2 : (w1.alloc (.cells #[.int .u8 x, .int .u8 0, .int .u8 0, .int .u8 0, .int .u8 0, .int .u8 0, .int .u8 0, .int .u8 0, .int .u8 0, .int .u8 0, .int .u8 0, .int .u8 0, .int .u8 0, .int .u8 0, .int .u8 0, .int .u8 0, .int .u8 0] 108)).cell? ⟨w.heap.size, 2, none⟩ = some (.int .u32 b) := (HR.out.under _).2.1 2 _ rfl
  have k3 : (w1.alloc (.cells #[.int .u8 x, .int .u8 0, .int .u8 0, .int .u8 0, .int .u8 0, .int .u8 0, .int .u8 0, .int .u8 0, .int .u8 0, .int .u8 0, .int .u8 0, .int .u8 0, .int .u8 0, .int .u8 0, .int .u8 0, .int .u8 0, .int .u8 0] 108)).cell? ⟨w.heap.size, 3, none⟩ = some (.int .u32 c) := (HR.out.under _).2.1 3 _ rfl
  have k4 : (w1.alloc (.cells #[.int .u8 x, .int .u8 0, .int .u8 0, .int .u8 0, .int .u8 0, .int .u8 0, .int .u8 0, .int .u8 0, .int .u8 0, .int .u8 0, .int .u8 0, .int .u8 0, .int .u8 0, .int .u8 0, .int .u8 0, .int .u8 0, .int .u8 0] 108)).cell? ⟨w.heap.size, 4, none⟩ = some (.int .u32 d) := (HR.out.under _).2.1 4 _ rfl
  have SS : HSt w _ w1.heap.size (.int .u8 x) := ⟨SB, S17⟩
  clear HR HB R17 S17 SB c0 c1 c2 c3 c4
  generalize (w1.alloc (.cells #[.int .u8 x, .int .u8 0, .int .u8 0, .int .u8 0, .int .u8 0, .int .u8 0, .int .u8 0, .int .u8 0, .int .u8 0, .int .u8 0, .int .u8 0, .int .u8 0, .int .u8 0, .int .u8 0, .int .u8 0, .int .u8 0, .int .u8 0] 108)) = w2 at *
  generalize w1.heap.size = g at *
  have S0 := Lib.hid (hst_keep (Below.refl w2.heap.size w2).drew ⟨SS, k1, k2, k3, k4⟩)
  clear SS k1 k2 k3 k4
  go_region_held3 (fun w' => HSt w w' g (.int .u8 x) ∧ w'.cell? ⟨w.heap.size, 1, none⟩ = some (.int .u32 a) ∧ w'.cell? ⟨w.heap.size, 2, none⟩ = some (.int .u32 b) ∧ w'.cell? ⟨w.heap.size, 3, none⟩ = some (.int .u32 c) ∧ w'.cell? ⟨w.heap.size, 4, none⟩ = some (.int .u32 d))
    (first | exact HP | exact hst_keep hb3 ‹_› | exact S0.out)
    (first
    | (go_at_call 79; refine (pair_bytes a b c d ha hb hc hd _).mono ?_; rintro e w3 ⟨rfl, hb3⟩)
    | (have hh := ‹HSt w w3 g (.int .u8 x) ∧ w3.cell? ⟨w.heap.size, 1, none⟩ = some (.int .u32 a) ∧ w3.cell? ⟨w.heap.size, 2, none⟩ = some (.int .u32 b) ∧ w3.cell? ⟨w.heap.size, 3, none⟩ = some (.int .u32 c) ∧ w3.cell? ⟨w.heap.size, 4, none⟩ = some (.int .u32 d)›
       have hA : ∀ j, j < (pairB a b c d).length → _ := fun j hj => hh.1.2.there j (by rw [pairB_length] at hj; exact hj)
       have hF : ∀ j, j < (pairB a b c d).length → _ := fun j hj => hh.1.2.free j (by rw [pairB_length] at hj; exact hj)
       have HC := Lib.hid (hh.1.2.put (bcells (pairB a b c d)) (by rw [bcells_length, pairB_length]))
       have HP := hst_put (bcells (pairB a b c d)) (by rw [bcells_length, pairB_length]) hs (Nat.le_of_lt hs) hh
       refine step_copy_str rfl (.tmp 12) (.tmp 15) 109 9 rfl 5 Try.underlying109 size_u8 g 1 16 16 rfl (pairB a b c d) rfl (Nat.le_of_eq (pairB_length a b c d)) hA hF ?_))
  have ec : bcells (helloB x a b c d) = .int .u8 x :: bcells (pairB a b c d) := by
    have : (UInt8.ofNat x).toNat = x := by rw [UInt8.toNat_ofNat']; omega
    simp [bcells, helloB, this]
  have hX := run_string_of (w3.setCells g 1 (bcells (pairB a b c d))) ⟨g, 0, none⟩ 17 17 (helloB x a b c d) (by simp [helloB, pairB_length]) (by
    rw [ec]
    intro j u hj
    rw [Addr.add_lit, Nat.zero_add]
    exact HC.out.2.1 j u hj)
  have hBel := Lib.hid HP.1.1
  clear HC hA hF hh HP S0 ec hb3
  go_wp2
  go_ret2
  exact ⟨rfl, hBel.out⟩
end Go.Proofs.Ytkcdeefnkbbacaa

/- A Builder of the call's own: what is written to it, and what it tells. -/
import Derived.Test.YtkcdeefnkbbacaaW01
import Derived.Lib.Builder
import Derived.Shelf.Strings.Builder1
import Derived.Test.YtkcdeefnkbbacaaShelf
set_option maxRecDepth 100000
namespace Go.Proofs.Ytkcdeefnkbbacaa
open Go.RowKit

abbrev IsBld (B b : Nat) (s : By) (w : World) : Prop := Lib.IsBuilder 128 5 B b (Lib.byteCells s) w
theorem info_bld : (Try.prog.info? 128).map (fun i => i.size) = some 2 := by kernel_rfl
theorem lies_bld : liesAt Try.prog Try.prog.depth 128 (2 / Try.prog.cellsOf 128) 0 128 1 = true := by kernel_rfl
set_option maxHeartbeats 1000000 in
theorem check_used (b : Nat) (w : World) (h0 : w.cell? ⟨b, 0, none⟩ = some (.pointer (some ⟨b, 0, none⟩))) :
    Calls Try.prog 130 #[.pointer (some ⟨b, 0, none⟩)] w fun e w' => e = .returned (.tuple #[]) ∧ w' = w := by
  obtain ⟨j, hj, hjs⟩ := Option.map_eq_some_iff.1 info_bld
  go_enter Try.func130, Try.ntmps130
  go_wp2
  rw [Lib.run_neq_ptr_same w _ Try.underlying126 hj]
  go_wp2
  go_end0
  exact ⟨rfl, rfl⟩
theorem sem_bind {α β : Type} (m : Sem α) (f : α → Sem β) : m.bind f = m >>= f := rfl
theorem sem_pure {α : Type} (a : α) : (Sem.pure a : Sem α) = Pure.pure a := rfl
theorem sem_prog {α : Type} (P : Program) (k : Program → Sem α) (w : World) : Sem.run P (Sem.program k) w = Sem.run P (k P) w := rfl
theorem conv_up {w : World} {j : TypeInfo} {e : TypeId} {cells : Nat} (a : Addr) (ht : Try.prog.info? 128 = some j) (hj : j.size ≠ 0) (hsh : w.shape? a.block = some (e, cells)) (hoff : a.off < cells) :
    (convert 126 171 (.pointer (some a))).run Try.prog w = .ok (.pointer (some a)) w := by
  simp only [convert, run_underlying Try.underlying126, run_underlying Try.underlying171, Sem.run_bind, Result.andThen_ok]
  conv => lhs; arg 2; whnf
  rw [sem_prog]
  simp [sem_bind, sem_pure, run_underlying Try.underlying126, run_underlying Try.underlying171, Conv.seenAt, viewAt, cellsIn, hsh, sizeOf, typeInfo, ht, hj, Try.underlying126]
  intro h
  omega
theorem conv_down {w : World} {j : TypeInfo} {e : TypeId} {cells : Nat} (a : Addr) (hu : Try.prog.info? 128 = some j) (hsh : w.shape? a.block = some (e, cells)) (hlies : liesAt Try.prog Try.prog.depth e (cells / Try.prog.cellsOf e) a.off 128 1 = true) :
    (convert 171 126 (.pointer (some a))).run Try.prog w = .ok (.pointer (some a)) w := by
  simp only [convert, run_underlying Try.underlying126, run_underlying Try.underlying171, Sem.run_bind, Result.andThen_ok]
  conv => lhs; arg 2; whnf
  rw [sem_prog]
  simp [sem_bind, sem_pure, run_underlying Try.underlying126, run_underlying Try.underlying171, Conv.seenAt, viewAt, hsh, variablesAt, hlies, sizeOf, typeInfo, hu, Try.underlying171]
set_option maxHeartbeats 1000000 in
theorem check_new (b : Nat) (w : World) (h0 : w.cell? ⟨b, 0, none⟩ = some (.pointer none)) (hsh : w.shape? b = some (128, 2)) (hfz : w.frozen? ⟨b, 0, none⟩ = false) :
    Calls Try.prog 130 #[.pointer (some ⟨b, 0, none⟩)] w fun e w' => e = .returned (.tuple #[]) ∧ w' = w.setCell ⟨b, 0, none⟩ (.pointer (some ⟨b, 0, none⟩)) := by
  obtain ⟨j, hj, hjs⟩ := Option.map_eq_some_iff.1 info_bld
  go_enter Try.func130, Try.ntmps130
  go_wp2
  rw [conv_up ⟨b, 0, none⟩ hj (by rw [hjs]; decide) hsh (Nat.zero_lt_succ 1)]
  simp only [Result.andThen]
  rw [Oper.upon_value]
  go_wp2
  rw [run_callFunc_extern Try.func138 (by kernel_rfl) (by kernel_rfl) (by kernel_rfl) (e := Extern.AbiNoEscape.same) (by kernel_rfl)]
  rw [Lib.run_noEscape]
  simp only [Result.andThen]
  rw [Oper.upon_value]
  go_wp2
  rw [conv_down ⟨b, 0, none⟩ hj hsh lies_bld]
  simp only [Result.andThen]
  rw [Oper.upon_value]
  go_wp2
  go_end0
  exact ⟨rfl, rfl⟩
theorem check_any (B b : Nat) (bs : List Value) (w : World) (h : Lib.IsBuilder 128 5 B b bs w) :
    Calls Try.prog 130 #[.pointer (some ⟨b, 0, none⟩)] w fun e w' => e = .returned (.tuple #[]) ∧ (Lib.BuilderAt 128 5 B b (.pointer (some ⟨b, 0, none⟩)) bs w' ∧ Below B w w') := by
  rcases h with h | h
  · refine (check_new b w h.cell0 h.shape h.frozen0).mono fun e w' ⟨he, hw⟩ => ?_
    subst hw
    exact ⟨he, h.used _, (Below.refl B w).setCell (p := ⟨b, 0, none⟩) h.1 _⟩
  · refine (check_used b w h.cell0).mono fun e w' ⟨he, hw⟩ => ?_
    subst hw
    exact ⟨he, h, Below.refl B _⟩
theorem info_byt : (Try.prog.info? 5).map (fun i => (i.zero, i.size, i.bytes)) = some (some (.int .u8 0), 1, 1) := by kernel_rfl
set_option maxHeartbeats 2000000 in
theorem bld_write (B b : Nat) (t s : By) (w : World) (h : IsBld B b t w) (hl : t.length + s.length ≤ 100000000) (hB : B ≤ w.heap.size) :
    Calls Try.prog 96 #[.pointer (some ⟨b, 0, none⟩), .string (str s)] w fun e w' => e = .returned (.tuple #[.int .i64 (s.length : Nat), .nilIface]) ∧ IsBld B b (t ++ s) w' ∧ Below B w w' := by
  obtain ⟨i0, hi, hp⟩ := Option.map_eq_some_iff.1 info_byt
  injection hp with hz0 hp
  injection hp with hz1 hz2
  have hss : (str s).size = s.length := rfl
  have htl : (Lib.byteCells t).length = t.length := Lib.byteCells_length t
  have enters : ∀ args w, (callFunc 130 args).run Try.prog w = .ok (.enter 130 args) w := enters_of Try.func130 (by kernel_rfl) rfl
  go_enter Try.func96, Try.ntmps96
  go_wp2_with (go_at_call 130; refine (check_any B b _ _ h).mono ?_)
  rintro e w1 ⟨rfl, h1, hb1⟩
  obtain ⟨hB1, v, hbk, hown, hne⟩ := h1
  have c0 : w1.cell? ⟨b, 0, none⟩ = some (.pointer (some ⟨b, 0, none⟩)) := by rw [Lib.cell_of_heap hbk]; rfl
  have c1 : w1.cell? ⟨b, 1, none⟩ = some v := by rw [Lib.cell_of_heap hbk]; rfl
  go_wp2_with (at_builtin; refine Lib.wpList_append_own_string _ rfl _ _ 109 9 rfl B 5 i0 Try.underlying109 Try.underlying9 hi hz0 hz1 hz2 _ _ _ rfl hown (str s) rfl ?c3 ?c4 ?c5 ?_)
  case c3 => unfold maxLen; omega
  case c4 => omega
  case c5 => have := hb1.size; omega
  intro v' w2 hown' hgrow _
  have hlt : b < w1.heap.size := heap_lt hbk
  have hb2 : w2.heap[b]? = some (.cells #[.pointer (some ⟨b, 0, none⟩), v] 128 (0, 0)) := by
    rw [hgrow.block b hlt (fun e => hne e.symm)]
    exact hbk
  have d0 : w2.cell? ⟨b, 0, none⟩ = some (.pointer (some ⟨b, 0, none⟩)) := by rw [Lib.cell_of_heap hb2]; rfl
  have d1 : w2.cell? ⟨b, 1, none⟩ = some v := by rw [Lib.cell_of_heap hb2]; rfl
  have f1 : w2.frozen? ⟨b, 1, none⟩ = false := Lib.frozen_of_heap hb2 1
  obtain ⟨ao, n', cap, rfl⟩ : ∃ ao n' cap, v' = .slice ao n' cap := by
    rcases hown'.2 with ⟨hv, _⟩ | ⟨g, cap, cur, hv, _⟩
    · exact ⟨_, _, _, hv⟩
    · exact ⟨_, _, _, hv⟩
  go_wp2
  go_ret2
  refine ⟨rfl, .inr ?_, ?_⟩
  · rw [Lib.byteCells_append]
    refine Lib.BuilderAt.put (T := 128) (e := 5) hB1 hb2 (bs' := Lib.byteCells t ++ Lib.byteCells s) ?_ (by decide)
    have e1 : Lib.strCells (str s) = Lib.byteCells s := rfl
    rw [e1] at hown'
    simpa [Lib.byteCells_length, hss] using hown'
  · exact (hb1.grown hgrow (by have := hb1.size; omega) (fun k hk => (hown.lt k hk).1)).setCell (p := ⟨b, 1, none⟩) hB1 _
end Go.Proofs.Ytkcdeefnkbbacaa

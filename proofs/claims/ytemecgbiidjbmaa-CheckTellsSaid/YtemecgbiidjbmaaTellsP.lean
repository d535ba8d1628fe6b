/- Plain facts on sums of bytes: one byte that is another one, or two unlike ones exchanged, give another sum. -/
import Derived.Test.YtemecgbiidjbmaaSeal
namespace Go.Proofs.Ytemecgbiidjbmaa
open Go.RowKit

theorem adL_append (p : Int × Int) (a b : List UInt8) : adL p (a ++ b) = adL (adL p a) b := by simp [adL]
theorem adL_cons (p : Int × Int) (x : UInt8) (b : List UInt8) : adL p (x :: b) = adL (adS p x) b := rfl

/-- the second half goes on from what it was -/
theorem ad_snd (l : List UInt8) : ∀ a b a' b' : Int, (adL (a, b) l).2 % 65521 = (adL (a', b') l).2 % 65521 → b % 65521 = b' % 65521 := by
  induction l with
  | nil => intro a b a' b' h; exact h
  | cons x l ih =>
    intro a b a' b' h
    have := ih _ _ _ _ h
    omega
/-- the first half goes on from what it was, where the second halves are one -/
theorem ad_fst (l : List UInt8) : ∀ a b a' : Int, (adL (a, b) l).1 % 65521 = (adL (a', b) l).1 % 65521 → a % 65521 = a' % 65521 := by
  induction l with
  | nil => intro a b a' h; exact h
  | cons x l ih =>
    intro a b a' h
    have := ih _ _ _ h
    omega
theorem adOf_inj {p q : Int × Int} (hp : adOk p) (hq : adOk q) (h : adOf p = adOf q) : p.1 = q.1 ∧ p.2 = q.2 := by
  obtain ⟨h1, h2, h3, h4⟩ := hp
  obtain ⟨g1, g2, g3, g4⟩ := hq
  unfold adOf at h
  omega
theorem byte_lt (x : UInt8) : (x.toNat : Int) < 256 := by have := x.toNat_lt; omega

theorem more_set {a c : List UInt8} {x y : UInt8} (h : more 1 (a ++ x :: c) = more 1 (a ++ y :: c)) : x = y := by
  have hx := byte_lt x
  have hy := byte_lt y
  have := (adOf_inj (adL_ok (adTo_ok 1) _) (adL_ok (adTo_ok 1) _) h).2
  rw [adL_append, adL_append, adL_cons, adL_cons] at this
  generalize adL (adTo 1) a = p at this
  have h2 := ad_snd c _ _ _ _ (congrArg (· % 65521) this)
  apply UInt8.toNat_inj.1
  omega

theorem more_swap {a c : List UInt8} {x y : UInt8} (h : more 1 (a ++ x :: y :: c) = more 1 (a ++ y :: x :: c)) : x = y := by
  have hx := byte_lt x
  have hy := byte_lt y
  have := (adOf_inj (adL_ok (adTo_ok 1) _) (adL_ok (adTo_ok 1) _) h).1
  rw [adL_append, adL_append, adL_cons, adL_cons, adL_cons, adL_cons] at this
  generalize adL (adTo 1) a = p at this
  have e : (adS (adS p x) y).2 = (adS (adS p y) x).2 := by simp only [adS]; omega
  have e1 : adS (adS p x) y = ((adS (adS p x) y).1, (adS (adS p x) y).2) := rfl
  have e2 : adS (adS p y) x = ((adS (adS p y) x).1, (adS (adS p x) y).2) := by rw [e]
  rw [e1, e2] at this
  have h2 := ad_fst c _ _ _ (congrArg (· % 65521) this)
  simp only [adS] at h2
  apply UInt8.toNat_inj.1
  omega

/-- a text with its sum behind it -/
def sealed (l : List UInt8) : List UInt8 := l ++ numB (more 1 l).toNat 4
theorem sealed_length (l : List UInt8) : (sealed l).length = l.length + 4 := by simp [sealed, numB_length]
theorem opened_of (l m : List UInt8) : opened (m ++ numB (more 1 l).toNat 4) = if more 1 m = more 1 l then (m, 0) else ([], 5) := by
  have h4 := numB_length (more 1 l).toNat 4
  have hm := more_bd 1 m
  have hl := more_bd 1 l
  unfold opened
  rw [if_neg (by simp [h4])]
  have e : (m ++ numB (more 1 l).toNat 4).length - 4 = m.length := by simp [h4]
  rw [e, List.take_left, List.drop_left]
  by_cases hq : more 1 m = more 1 l
  · rw [if_pos hq, hq, if_pos rfl]
  · rw [if_neg hq, if_neg (fun hn => hq ?_)]
    have := numB_inj (by omega) (by omega) hn
    omega
theorem split_at (l : List UInt8) (p : Nat) (h : p < l.length) : l = l.take p ++ l[p] :: l.drop (p + 1) := by
  rw [← List.drop_eq_getElem_cons h, List.take_append_drop]
theorem split_two (l : List UInt8) (p : Nat) (h : p + 1 < l.length) : l = l.take p ++ l[p] :: l[p + 1] :: l.drop (p + 2) := by
  rw [← List.drop_eq_getElem_cons h, ← List.drop_eq_getElem_cons (by omega), List.take_append_drop]

theorem set_two (A C : List UInt8) (x y u v : UInt8) : ((A ++ x :: y :: C).set A.length u).set (A.length + 1) v = A ++ u :: v :: C := by
  induction A with
  | nil => rfl
  | cons z A ih => simp
theorem sealed_get (l : List UInt8) (p : Nat) (h : p < l.length) (hp2 : p < (sealed l).length) : (sealed l)[p]'hp2 = l[p] := by
  unfold sealed; exact List.getElem_append_left h
theorem opened_set (l : List UInt8) (p : Nat) (h : p < l.length) (y : UInt8) : opened ((sealed l).set p y) = if y = l[p] then (l, 0) else ([], 5) := by
  have e : (sealed l).set p y = l.set p y ++ numB (more 1 l).toNat 4 := List.set_append_left _ _ h
  have e2 : l.set p y = l.take p ++ y :: l.drop (p + 1) := by rw [List.set_eq_take_append_cons_drop, if_pos h]
  rw [e, opened_of l _]
  by_cases hq : y = l[p]
  · rw [if_pos hq]
    have : l.set p y = l := by rw [hq]; exact List.set_getElem_self h
    rw [this, if_pos rfl]
  · rw [if_neg hq, if_neg (fun hm => hq ?_)]
    rw [e2] at hm
    conv at hm => rhs; rw [split_at l p h]
    exact more_set hm
theorem opened_swap (l : List UInt8) (p : Nat) (h : p + 1 < l.length) : opened (((sealed l).set p l[p + 1]).set (p + 1) l[p]) = if l[p] = l[p + 1] then (l, 0) else ([], 5) := by
  have e : ((sealed l).set p l[p + 1]).set (p + 1) l[p] = (l.set p l[p + 1]).set (p + 1) l[p] ++ numB (more 1 l).toNat 4 := by
    unfold sealed
    rw [List.set_append_left _ _ (by omega), List.set_append_left _ _ (by simpa using h)]
  have e2 : (l.set p l[p + 1]).set (p + 1) l[p] = l.take p ++ l[p + 1] :: l[p] :: l.drop (p + 2) := by
    have h2 := set_two (l.take p) (l.drop (p + 2)) l[p] l[p + 1] l[p + 1] l[p]
    have hA : (l.take p).length = p := by simp; omega
    rw [← split_two l p h, hA] at h2
    exact h2
  rw [e, opened_of l _]
  by_cases hq : l[p] = l[p + 1]
  · rw [if_pos hq]
    have : (l.set p l[p + 1]).set (p + 1) l[p] = l := by rw [e2, ← hq]; conv => rhs; rw [split_two l p h, ← hq]
    rw [this, if_pos rfl]
  · rw [if_neg hq, if_neg (fun hm => hq ?_)]
    rw [e2] at hm
    conv at hm => rhs; rw [split_two l p h]
    exact (more_swap hm).symm
end Go.Proofs.Ytemecgbiidjbmaa

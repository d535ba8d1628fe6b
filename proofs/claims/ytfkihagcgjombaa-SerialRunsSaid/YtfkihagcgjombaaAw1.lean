/- Values as data: what a value of the program's reads as in a world, and what stays of it when the world grows. No program's fact stands here. -/
import Derived.Test.YtfkihagcgjombaaStr
import Derived.Orders
namespace Go.Proofs.Ytfkihagcgjombaa
open Go.RowKit

/-- sh: read alone; clip: read alone, and its capacity is its length; nil: there is none; own: the call's own, to be appended to -/
inductive Pm where
  | sh | clip | nil | own
  deriving DecidableEq

/-- a value as data -/
inductive AV where
  | top
  | bool (b : Bool)
  | int (k : IntKind) (n : Int)
  | str (s : List UInt8)
  | sl (p : Pm) (es : Nat) (xs : List (List AV))
  | agg (cs : List AV)
  | tuple (vs : List AV)
  | ptr (b es i off : Nat)
  | eptr (cs : List AV) (off : Nat)
  | bsl (b es off len : Nat)
  | fn (f : Nat)
  | mp (f : List UInt8 → Int)

/-- the box that a value points into -/
def AV.ref : AV → Option Nat
  | .ptr b _ _ _ => some b
  | .bsl b _ _ _ => some b
  | _ => none

/-- which cells are never written again -/
abbrev Cells := Nat → Nat → Prop

/-- in world w, of cells that are never written again, the value reads as that data -/
inductive Rd (I : Cells) (w : World) : AV → Value → Prop
  | top (v : Value) : Rd I w .top v
  | bool (b : Bool) : Rd I w (.bool b) (.bool b)
  | int (k : IntKind) (n : Int) : Rd I w (.int k n) (.int k n)
  | str (s : List UInt8) (h : s.length ≤ maxLen) : Rd I w (.str s) (.string (Go.Proofs.Ytfkihagcgjombaa.str s))
  | fn (f : Nat) : Rd I w (.fn f) (.func (.func f) #[] #[])
  | agg (cs : List AV) (vs : List Value) (hl : vs.length = cs.length) (h1 : ∀ v ∈ vs, v.oneCell' = true)
      (h : ∀ (k : Nat) c v, cs[k]? = some c → vs[k]? = some v → Rd I w c v) : Rd I w (.agg cs) (.agg vs.toArray)
  | sl (p : Pm) (es : Nat) (xs : List (List AV)) (base : Option Addr) (cap : Nat) (u : Nat → Nat → Value)
      (hcap : xs.length ≤ cap) (hmax : cap ≤ maxLen) (hclip : p = .clip → cap = xs.length) (hnil : p = .nil → base = none ∧ cap = 0) (hes : ∀ x ∈ xs, x.length = es)
      (hb : xs ≠ [] → ∃ g o, base = some ⟨g, o, none⟩ ∧ ∀ (j k : Nat) x c, xs[j]? = some x → x[k]? = some c →
        I g (o + (j * es + k)) ∧ w.cell? ⟨g, o + (j * es + k), none⟩ = some (u j k) ∧ (u j k).oneCell' = true)
      (hr : ∀ (j k : Nat) x c, xs[j]? = some x → x[k]? = some c → Rd I w c (u j k)) : Rd I w (.sl p es xs) (.slice base xs.length cap)

theorem Rd.mono {I I' : Cells} {w w' : World} (hI : ∀ g o, I g o → I' g o) (hw : ∀ g o, I g o → w'.cell? ⟨g, o, none⟩ = w.cell? ⟨g, o, none⟩)
    {a : AV} {v : Value} (h : Rd I w a v) : Rd I' w' a v := by
  induction h with
  | top v => exact .top v
  | bool b => exact .bool b
  | int k n => exact .int k n
  | fn f => exact .fn f
  | str s h => exact .str s h
  | agg cs vs hl h1 h ih => exact .agg cs vs hl h1 ih
  | sl p es xs base cap u hcap hmax hclip hnil hes hb hr ih =>
    refine .sl p es xs base cap u hcap hmax hclip hnil hes (fun hne => ?_) ih
    obtain ⟨g, o, hbase, hc⟩ := hb hne
    refine ⟨g, o, hbase, fun j k x c hx hk => ?_⟩
    obtain ⟨h1, h2, h3⟩ := hc j k x c hx hk
    exact ⟨hI _ _ h1, (hw _ _ h1).trans h2, h3⟩

/-- a copy that is read alone -/
def AV.share : AV → AV
  | .sl .own es xs => .sl .sh es xs
  | .mp _ => .top
  | a => a
theorem Rd.share {I : Cells} {w : World} {a : AV} {v : Value} (h : Rd I w a v) : Rd I w a.share v := by
  cases h with
  | sl p es xs base cap u hcap hmax hclip hnil hes hb hr =>
    cases p <;> exact .sl _ es xs base cap u hcap hmax (by simp_all) (by simp_all) hes hb hr
  | top v => exact .top v
  | bool b => exact .bool b
  | int k n => exact .int k n
  | fn f => exact .fn f
  | str s h => exact .str s h
  | agg cs vs hl h1 h => exact .agg cs vs hl h1 h

/-- who alone may write a block -/
inductive Loc where
  | none
  | slot (t j : Nat)
  | cell (b i k : Nat)
  | box (b : Nat)
  | res (j : Nat)
  deriving DecidableEq

/-- what is not in the memory: from which block on the call made it, the cells that stay, who owns a block, where a box lies -/
structure Gh where
  base : Nat
  I : Cells
  ow : Nat → Loc
  bx : Nat → Nat

/-- the slice's block is L's own, and of it just the elements stay -/
def OwnX (g : Gh) (w : World) (L : Loc) (es n : Nat) (v : Value) : Prop :=
  v = .slice none 0 0 ∨
  ∃ blk cap cur e, v = .slice (some ⟨blk, 0, none⟩) n cap ∧ g.base ≤ blk ∧ g.ow blk = L ∧ w.heap[blk]? = some (.cells cur e (0, 0)) ∧
    cur.size = cap * es ∧ ∀ o, g.I blk o ↔ o < n * es

def LocR (g : Gh) (w : World) (L : Loc) (a : AV) (v : Value) : Prop :=
  Rd g.I w a v ∧ ∀ es xs, a = .sl .own es xs → OwnX g w L es xs.length v

theorem LocR.rd {g : Gh} {w : World} {L : Loc} {a : AV} {v : Value} (h : LocR g w L a v) : Rd g.I w a v := h.1
theorem LocR.share {g : Gh} {w : World} {L L' : Loc} {a : AV} {v : Value} (h : LocR g w L a v) : LocR g w L' a.share v := by
  refine ⟨h.1.share, fun es xs he => ?_⟩
  cases a with
  | sl p es' xs' => cases p <;> simp [AV.share] at he
  | _ => simp [AV.share] at he
theorem Rd.loc {g : Gh} {w : World} {L : Loc} {a : AV} {v : Value} (h : Rd g.I w a v) : LocR g w L a.share v := by
  refine ⟨h.share, fun es xs he => ?_⟩
  cases a with
  | sl p es' xs' => cases p <;> simp [AV.share] at he
  | _ => simp [AV.share] at he
theorem LocR.top (g : Gh) (w : World) (L : Loc) (v : Value) : LocR g w L .top v := ⟨.top v, fun _ _ h => by cases h⟩

/-- what a map of texts to numbers has at a text -/
def valL : List (List UInt8 × Int) → List UInt8 → Int
  | [], _ => 0
  | p :: r, s => if p.1 = s then p.2 else valL r s
/-- the block is a map that has that at each text -/
def MapR (w : World) (r : Nat) (f : List UInt8 → Int) : Prop :=
  ∃ es clock L, w.heap[r]? = some (.map es clock) ∧ es.toList.map (fun e => (e.key, e.val)) = L.map (fun p : List UInt8 × Int => (Value.string (Go.Proofs.Ytfkihagcgjombaa.str p.1), Value.int .i64 p.2)) ∧ ∀ s, f s = valL L s
/-- the box's block is the call's own, and of it nothing stays -/
def OwB (g : Gh) (b : Nat) : Prop := g.base ≤ g.bx b ∧ g.ow (g.bx b) = .box b ∧ ∀ o, ¬ g.I (g.bx b) o
/-- what a temporary holds -/
def SlotR (g : Gh) (w : World) (t : Nat) (a : AV) (v : Value) : Prop :=
  match a with
  | .ptr b es i off => v = .pointer (some ⟨g.bx b, i * es + off, none⟩)
  | .eptr cs off => ∃ blk o, ∃ u : Nat → Value, v = .pointer (some ⟨blk, o + off, none⟩) ∧
      ∀ (k : Nat) c, cs[k]? = some c → g.I blk (o + k) ∧ w.cell? ⟨blk, o + k, none⟩ = some (u k) ∧ (u k).oneCell' = true ∧ Rd g.I w c (u k)
  | .bsl b es off len => (∃ cap, v = .slice (some ⟨g.bx b, off * es, none⟩) len cap ∧ len ≤ cap ∧ cap ≤ maxLen ∧ (∃ cur e, w.heap[g.bx b]? = some (.cells cur e (0, 0)) ∧ (off + cap) * es ≤ cur.size) ∧ OwB g b) ∨ (len = 0 ∧ ∃ base, v = .slice base 0 0)
  | .tuple vs => ∃ us : List Value, v = .tuple us.toArray ∧ us.length = vs.length ∧ ∀ (j : Nat) c u, vs[j]? = some c → us[j]? = some u → LocR g w (.slot t j) c u
  | .mp f => ∃ r, v = .map (some r) ∧ g.base ≤ r ∧ g.ow r = .slot t 0 ∧ (∀ o, ¬ g.I r o) ∧ MapR w r f
  | a => LocR g w (.slot t 0) a v

structure Box where
  one : Bool
  es : Nat
  xs : List (List AV)

def BoxR (g : Gh) (w : World) (b : Nat) (bx : Box) : Prop :=
  bx.xs = [] ∨ ∃ cur e, w.heap[g.bx b]? = some (.cells cur e (0, 0)) ∧ g.base ≤ g.bx b ∧ g.ow (g.bx b) = .box b ∧ bx.xs.length * bx.es ≤ cur.size ∧ (∀ o, ¬ g.I (g.bx b) o) ∧
    (∀ x ∈ bx.xs, x.length = bx.es) ∧
    ∀ (j k : Nat) x c, bx.xs[j]? = some x → x[k]? = some c → ∃ u, cur[j * bx.es + k]? = some u ∧ u.oneCell' = true ∧ LocR g w (.cell b j k) c u

/-- a block of cells is one of as many cells still -/
def SzS (w w' : World) : Prop := ∀ (b : Nat) (cur : Array Value) (e : TypeId), w.heap[b]? = some (.cells cur e (0, 0)) → ∃ cur' : Array Value, w'.heap[b]? = some (.cells cur' e (0, 0)) ∧ cur'.size = cur.size
/-- the world has grown; what location L has is as it was -/
structure Keep (g : Gh) (w : World) (g' : Gh) (w' : World) (L : Loc) : Prop where
  base : g'.base = g.base
  bx : ∀ b, L = .box b → g'.bx b = g.bx b
  I : ∀ b o, g.I b o → g'.I b o
  same : ∀ b o, g.I b o → w'.cell? ⟨b, o, none⟩ = w.cell? ⟨b, o, none⟩
  own : ∀ b, b < w.heap.size → g.ow b = L → g'.ow b = L ∧ w'.heap[b]? = w.heap[b]? ∧ ∀ o, g'.I b o → g.I b o
  sz : SzS w w'

theorem heap_lt {w : World} {b : Nat} {o : Obj} (h : w.heap[b]? = some o) : b < w.heap.size := (Array.getElem?_eq_some_iff.1 h).1

theorem SzS.refl (w : World) : SzS w w := fun _ cur _ hb => ⟨cur, hb, rfl⟩
theorem SzS.old {w w' : World} (h : ∀ b, b < w.heap.size → w'.heap[b]? = w.heap[b]?) : SzS w w' :=
  fun b cur _ hb => ⟨cur, (h b (heap_lt hb)).trans hb, rfl⟩
theorem SzS.one {w w' : World} {c : Nat} (h : ∀ b, b ≠ c → w'.heap[b]? = w.heap[b]?) (hc : ∀ (cur : Array Value) (e : TypeId), w.heap[c]? = some (.cells cur e (0, 0)) → ∃ cur' : Array Value, w'.heap[c]? = some (.cells cur' e (0, 0)) ∧ cur'.size = cur.size) : SzS w w' :=
  fun b cur e hb => by
    by_cases hbc : b = c
    · subst hbc; exact hc cur e hb
    · exact ⟨cur, (h b hbc).trans hb, rfl⟩
theorem LocR.keep {g g' : Gh} {w w' : World} {L : Loc} {a : AV} {v : Value} (hk : Keep g w g' w' L) (h : LocR g w L a v) : LocR g' w' L a v := by
  refine ⟨h.1.mono hk.I hk.same, fun es xs he => ?_⟩
  rcases h.2 es xs he with hn | ⟨blk, cap, cur, e, hv, hb, ho, hh, hs, hI⟩
  · exact .inl hn
  · obtain ⟨h1, h2, h3⟩ := hk.own blk (heap_lt hh) ho
    exact .inr ⟨blk, cap, cur, e, hv, by rw [hk.base]; exact hb, h1, h2.trans hh, hs, fun o => ⟨fun h => (hI o).1 (h3 o h), fun h => hk.I _ _ ((hI o).2 h)⟩⟩

theorem Keep.ob {g g' : Gh} {w w' : World} {b : Nat} (hk : Keep g w g' w' (.box b)) (hlt : g.bx b < w.heap.size) (h : OwB g b) : OwB g' b := by
  obtain ⟨h1, h2, h3⟩ := h
  obtain ⟨k1, _, k3⟩ := hk.own _ hlt h2
  have e := hk.bx b rfl
  exact ⟨by rw [e, hk.base]; exact h1, by rw [e]; exact k1, fun o hi => h3 o (k3 o (by rw [← e]; exact hi))⟩
theorem SlotR.keep {g g' : Gh} {w w' : World} {t : Nat} {a : AV} {v : Value} (hk : ∀ j, Keep g w g' w' (.slot t j)) (hbx : ∀ b, a.ref = some b → g'.bx b = g.bx b) (hob : ∀ b, a.ref = some b → g.bx b < w.heap.size → OwB g b → OwB g' b) (h : SlotR g w t a v) : SlotR g' w' t a v := by
  cases a with
  | ptr b es i off => simp only [SlotR] at h ⊢; rw [hbx b rfl]; exact h
  | eptr cs off =>
    obtain ⟨blk, o, u, hv, hc⟩ := h
    refine ⟨blk, o, u, hv, fun k c hk' => ?_⟩
    obtain ⟨h1, h2, h3, h4⟩ := hc k c hk'
    exact ⟨(hk 0).I _ _ h1, ((hk 0).same _ _ h1).trans h2, h3, h4.mono (hk 0).I (hk 0).same⟩
  | bsl b es off len =>
    rcases h with ⟨cap, h1, h2, h3, ⟨cur, e, h4, h5⟩, h8⟩ | h
    · obtain ⟨cur', h6, h7⟩ := (hk 0).sz _ _ _ h4
      exact .inl ⟨cap, by rw [hbx b rfl]; exact h1, h2, h3, ⟨cur', e, by rw [hbx b rfl]; exact h6, by rw [h7]; exact h5⟩, hob b rfl (heap_lt h4) h8⟩
    · exact .inr h
  | mp f =>
    obtain ⟨r, hv, hb, ho, hI, es, clock, L, hh, hm⟩ := h
    obtain ⟨h1, h2, h3⟩ := (hk 0).own r (heap_lt hh) ho
    exact ⟨r, hv, by rw [(hk 0).base]; exact hb, h1, fun o hi => hI o (h3 o hi), es, clock, L, h2.trans hh, hm⟩
  | tuple vs =>
    obtain ⟨us, hv, hl, hc⟩ := h
    exact ⟨us, hv, hl, fun j c u h1 h2 => (hc j c u h1 h2).keep (hk j)⟩
  | top => exact LocR.keep (hk 0) h
  | bool b => exact LocR.keep (hk 0) h
  | int k n => exact LocR.keep (hk 0) h
  | str s => exact LocR.keep (hk 0) h
  | sl p es xs => exact LocR.keep (hk 0) h
  | agg cs => exact LocR.keep (hk 0) h
  | fn f => exact LocR.keep (hk 0) h

theorem BoxR.keep {g g' : Gh} {w w' : World} {b : Nat} {x : Box} (hk : Keep g w g' w' (.box b)) (hc : ∀ i k, Keep g w g' w' (.cell b i k)) (h : BoxR g w b x) : BoxR g' w' b x := by
  rcases h with h | ⟨cur, e, hh, hb, ho, hs, hI, hx, hcells⟩
  · exact .inl h
  obtain ⟨h1, h2, h3⟩ := hk.own _ (heap_lt hh) ho
  have hbx := hk.bx b rfl
  refine .inr ⟨cur, e, by rw [hbx]; exact h2.trans hh, by rw [hk.base, hbx]; exact hb, by rw [hbx]; exact h1, hs, fun o hi => hI o (h3 o (by rw [← hbx]; exact hi)), hx, fun j k x' c hj hk' => ?_⟩
  obtain ⟨u, hu, h1, h2⟩ := hcells j k x' c hj hk'
  exact ⟨u, hu, h1, h2.keep (hc j k)⟩
theorem BoxR.row {g : Gh} {w : World} {b : Nat} {bx : Box} (h : BoxR g w b bx) {i : Nat} {x : List AV} (hx : bx.xs[i]? = some x) :
    ∃ cur e, w.heap[g.bx b]? = some (.cells cur e (0, 0)) ∧ g.base ≤ g.bx b ∧ g.ow (g.bx b) = .box b ∧ bx.xs.length * bx.es ≤ cur.size ∧ (∀ o, ¬ g.I (g.bx b) o) ∧
    (∀ x ∈ bx.xs, x.length = bx.es) ∧
    ∀ (j k : Nat) x c, bx.xs[j]? = some x → x[k]? = some c → ∃ u, cur[j * bx.es + k]? = some u ∧ u.oneCell' = true ∧ LocR g w (.cell b j k) c u := by
  rcases h with h | h
  · rw [h] at hx; cases hx
  · exact h
end Go.Proofs.Ytfkihagcgjombaa

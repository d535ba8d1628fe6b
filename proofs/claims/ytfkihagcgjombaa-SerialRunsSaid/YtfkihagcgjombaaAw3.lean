/- The operations on data: what each leaves, and the check that it is the program's. No program's fact stands here. -/
import Derived.Test.YtfkihagcgjombaaAw2
namespace Go.Proofs.Ytfkihagcgjombaa
open Go.RowKit

inductive Arg where
  | t (n : Nat)
  | c (a : AV)

def Arg.ev (g : Nat → AV) : Arg → AV
  | .t n => g n
  | .c a => a

inductive Cv where
  | int (k : IntKind)
  | bytes
  | str
  | id

/-- the kind of a leaf -/
inductive LK where
  | i
  | b
  | s

inductive AOp where
  | cp (x : Arg)
  | tk (n : Nat)
  | pick (c x y : Arg)
  | bin (op : BinOp) (x y : Arg)
  | eqA (ne : Bool) (ks : List LK) (x y : Arg)
  | eqB (ne : Bool) (x y : Arg)
  | un (op : UnOp) (x : Arg)
  | cv (c : Cv) (x : Arg)
  | alloc (b es : Nat) (zero : List AV)
  | box (b es : Nat) (x : Arg)
  | ld (n : Option Nat) (p : Arg)
  | ldt (p : Arg)
  | st (n : Nat) (p x : Arg)
  | stt (p : Arg) (n : Nat)
  | fa (off : Nat) (p : Arg)
  | ia (es : Nat) (n : Option Nat) (x i : Arg)
  | ixS (x i : Arg)
  | ixA (n : Nat) (x i : Arg)
  | fld (off : Nat) (n : Option Nat) (x : Arg)
  | sub (es : Nat) (x : Arg) (lo hi mx : Option Arg)
  | subS (x : Arg) (lo hi : Option Arg)
  | bs (es : Nat) (xs : List Arg)
  | bld (zero : List AV) (ps : List (Nat × Nat × Arg))
  | ext (x : Arg) (i : Nat)
  | extt (n i : Nat)
  | call (f : FuncId) (xs : List Arg)
  | app (es bytes : Nat) (x y : Arg)
  | appS (bytes : Nat) (x y : Arg)
  | len (x : Arg)
  | lenS (x : Arg)
  | mm (mx : Bool) (xs : List Arg)
  | mk (es bytes : Nat) (zero : List AV) (l c : Arg)
  | ldr (n : Option Nat) (p : Arg)
  | sto (n : Nat) (p x : Arg)
  | callB (b es : Nat) (f : FuncId) (xs : List Arg)
  | appB (b es bytes : Nat) (x : Option Nat) (y : Arg)
  | bsc (es : Nat)
  | iaE (es : Nat) (x i : Arg)
  | callv (n f : Nat) (xs : List Arg)
  | ldo (p : Arg)
  | callN (es : Nat) (f : FuncId) (xs : List Arg)
  | nilQ (ne : Bool) (x : Arg)
  | bsB (b es : Nat) (xs : List Arg)
  | allocR (b n es : Nat) (zero : List AV)
  | iaR (es n : Nat) (x i : Arg)
  | nilB (b es : Nat)
  | bad

def AV.cells : AV → List AV
  | .agg cs => cs
  | a => [a.share]

/-- a cell as a box has it: what is nil is its own -/
def AV.up : AV → AV
  | .sl .nil es xs => .sl .own es xs
  | .sl .own es xs => .sl .sh es xs
  | a => a

def leafEq (k : LK) (x y : AV) : Option Bool :=
  match k with
  | .i => match x with
    | .int k a => match y with
      | .int k' b => if k = k' then some (decide (a = b)) else none
      | _ => none
    | _ => none
  | .b => match x with
    | .bool a => match y with
      | .bool b => some (decide (a = b))
      | _ => none
    | _ => none
  | .s => match x with
    | .str a => match y with
      | .str b => some (decide (a = b))
      | _ => none
    | _ => none
def aggEq : List LK → List AV → List AV → Option Bool
  | [], [], [] => some true
  | k :: ks, a :: cs, b :: ds =>
    match leafEq k a b with
    | none => none
    | some p => match aggEq ks cs ds with
      | none => none
      | some q => some (p && q)
  | _, _, _ => none

def binInt (op : BinOp) (k : IntKind) (a b : Int) (K : AV → Prop) : Prop :=
  match op with
  | .add => K (.int k (k.wrap (a + b)))
  | .sub => K (.int k (k.wrap (a - b)))
  | .mul => K (.int k (k.wrap (a * b)))
  | .quo => b ≠ 0 ∧ K (.int k (k.wrap (a.tdiv b)))
  | .rem => b ≠ 0 ∧ K (.int k (a.tmod b))
  | .and => K (.int k (k.wrap ((BitVec.ofInt k.bits a &&& BitVec.ofInt k.bits b).toNat : Int)))
  | .or => K (.int k (k.wrap ((BitVec.ofInt k.bits a ||| BitVec.ofInt k.bits b).toNat : Int)))
  | .xor => K (.int k (k.wrap ((BitVec.ofInt k.bits a ^^^ BitVec.ofInt k.bits b).toNat : Int)))
  | .eql => K (.bool (decide (a = b)))
  | .neq => K (.bool (!decide (a = b)))
  | .lss => K (.bool (decide (a < b)))
  | .leq => K (.bool (decide (a ≤ b)))
  | .gtr => K (.bool (decide (b < a)))
  | .geq => K (.bool (decide (b ≤ a)))
  | _ => False
def binShift (op : BinOp) (k : IntKind) (a b : Int) (K : AV → Prop) : Prop :=
  match op with
  | .shl => 0 ≤ b ∧ K (.int k (k.wrap (a * 2 ^ (min b.toNat k.bits))))
  | .shr => 0 ≤ b ∧ K (.int k (a.fdiv (2 ^ (min b.toNat k.bits))))
  | _ => False
def binK (op : BinOp) (x y : AV) (K : AV → Prop) : Prop :=
  match x with
  | .int k a => match y with
    | .int k' b => match op with
      | .shl => binShift .shl k a b K
      | .shr => binShift .shr k a b K
      | op => if k = k' then binInt op k a b K else False
    | _ => False
  | .str s => match y with
    | .str t => match op with
      | .add => s.length + t.length ≤ maxLen ∧ K (.str (s ++ t))
      | .eql => K (.bool (decide (s = t)))
      | .neq => K (.bool (!decide (s = t)))
      | .lss => K (.bool (Op.bytesLess s t))
      | _ => False
    | _ => False
  | _ => False
def unK (op : UnOp) (x : AV) (K : AV → Prop) : Prop :=
  match x with
  | .bool b => match op with
    | .not => K (.bool (!b))
    | _ => False
  | .int k n => match op with
    | .neg => K (.int k (k.wrap (0 - n)))
    | _ => False
  | _ => False
def bytesAV (s : List UInt8) : List (List AV) := s.map fun b => [.int .u8 (b.toNat : Int)]
def cvK (c : Cv) (x : AV) (K : AV → Prop) : Prop :=
  match c with
  | .int k => match x with
    | .int _ n => K (.int k (k.wrap n))
    | _ => False
  | .bytes => match x with
    | .str s => K (.sl .sh 1 (bytesAV s))
    | _ => False
  | .str => match x with
    | .sl _ es xs => es = 1 ∧ ∃ s : List UInt8, xs = bytesAV s ∧ s.length ≤ maxLen ∧ K (.str s)
    | _ => False
  | .id => match x with
    | .str s => K (.str s)
    | _ => False

/-- a list's place k, of a list of lists -/
def cellAt (xs : List (List AV)) (i off : Nat) (K : AV → Prop) : Prop :=
  match xs[i]? with
  | none => False
  | some x => match x[off]? with
    | none => False
    | some c => K c
def putC (l : List AV) (off : Nat) : List AV → List AV
  | [] => l
  | c :: cs => putC (l.set off c) (off + 1) cs
def fillA (l : List AV) : List (Nat × Nat × AV) → Option (List AV)
  | [] => some l
  | (off, size, v) :: r => match Nat.beq v.cells.length size, Nat.ble (off + size) l.length with
    | true, true => fillA (putC l off v.cells) r
    | _, _ => none

def asI (x : AV) (K : Int → Prop) : Prop :=
  match x with
  | .int _ i => K i
  | _ => False
def optI (x : Option AV) (d : Int) (K : Int → Prop) : Prop :=
  match x with
  | none => K d
  | some x => asI x K
def mmI (mx : Bool) (a b : Int) : Int := match mx with | true => max a b | false => min a b
def foldMM (mx : Bool) : AV → List AV → (AV → Prop) → Prop
  | .int k a, [], K => K (.int k a)
  | .int k a, .int k' b :: r, K => if k = k' then foldMM mx (.int k (mmI mx a b)) r K else False
  | _, _, _ => False

/-- the same value, laid open as far as the rules look -/
def frcL : List AV → (List AV → Prop) → Prop
  | [], K => K []
  | a :: r, K => match a with
    | .int k n => frcL r fun r' => K (.int k n :: r')
    | .bool b => frcL r fun r' => K (.bool b :: r')
    | .str s => frcL r fun r' => K (.str s :: r')
    | .sl p es xs => frcL r fun r' => K (.sl p es xs :: r')
    | .top => frcL r fun r' => K (.top :: r')
    | .agg cs => frcL r fun r' => K (.agg cs :: r')
    | .tuple cs => frcL r fun r' => K (.tuple cs :: r')
    | .ptr b es i off => frcL r fun r' => K (.ptr b es i off :: r')
    | .eptr cs off => frcL r fun r' => K (.eptr cs off :: r')
    | .bsl b es off n => frcL r fun r' => K (.bsl b es off n :: r')
    | .fn f => frcL r fun r' => K (.fn f :: r')
    | .mp f => frcL r fun r' => K (.mp f :: r')
def frcB : List (Option Box) → (List (Option Box) → Prop) → Prop
  | [], K => K []
  | a :: r, K => frcB r fun r' => K (a :: r')
theorem frcB_eq (l : List (Option Box)) : ∀ K, frcB l K = K l := by
  induction l with
  | nil => intro K; rfl
  | cons a r ih => intro K; simp only [frcB, ih]
theorem frcL_eq (l : List AV) : ∀ K, frcL l K = K l := by
  induction l with
  | nil => intro K; rfl
  | cons a r ih => intro K; cases a <;> simp only [frcL, ih]
/-- no pointer, no tuple -/
def AV.plain : AV → Bool
  | .top => false
  | .ptr .. => false
  | .eptr .. => false
  | .bsl .. => false
  | .tuple .. => false
  | .mp .. => false
  | _ => true
def allPlain : List AV → Bool
  | [] => true
  | a :: r => match a.plain with
    | true => allPlain r
    | false => false
/-- what a call may be handed: also what is never looked at -/
def allHeld : List AV → Bool
  | [] => true
  | a :: r => match a with
    | .top => allHeld r
    | a => match a.plain with
      | true => allHeld r
      | false => false
def allLen (n : Nat) : List (List AV) → Bool
  | [] => true
  | a :: r => match Nat.beq a.length n with
    | true => allLen n r
    | false => false
def cellsOf : List AV → (List (List AV) → Prop) → Prop
  | [], K => K []
  | a :: r, K => frcL a.cells fun c => cellsOf r fun cs => K (c :: cs)
/-- a list with another one at a place -/
def setRow (xs : List (List AV)) (i : Nat) (y : List AV) (K : List (List AV) → Prop) (one : Bool) : Prop :=
  match one with
  | false => K (xs.set i y)
  | true => match i with
    | 0 => match xs with
      | [_] => K [y]
      | _ => False
    | _ => False

/-- a value that holds no address -/
def AV.flat : AV → Bool
  | .int .. => true
  | .bool _ => true
  | .str _ => true
  | _ => false
def flatRows (xs : List (List AV)) : Prop := ∀ x ∈ xs, ∀ c ∈ x, c.flat = true
/-- what points into a box is known no more -/
def AV.kill (b : Nat) (v : AV) : AV :=
  match v with
  | .ptr b' es i off => match Nat.beq b' b with
    | true => .top
    | false => .ptr b' es i off
  | .bsl b' es off n => match Nat.beq b' b with
    | true => .top
    | false => .bsl b' es off n
  | v => v

/-- as it is handed to a call -/
def AV.shr : AV → AV
  | .sl _ es xs => .sl .sh es xs
  | a => a
abbrev Goods := FuncId → List AV → AV → Prop
abbrev Cont := AV → Option (Nat × AV) → Option (Nat × Option Box) → Prop

def AOp.sem (G : Goods) (o : AOp) (g : Nat → AV) (bs : List (Option Box)) (K : Cont) : Prop :=
  match o with
  | .cp x => match x with
    | .t n => K (g n).cpy none none
    | .c a => K a none none
  | .tk n => K (g n) (some (n, (g n).cpy)) none
  | .pick c x y => match c.ev g with
    | .bool b => (b = true → K (x.ev g).cpy none none) ∧ (b = false → K (y.ev g).cpy none none)
    | _ => False
  | .bin op x y => binK op (x.ev g) (y.ev g) fun v => K v none none
  | .eqA ne ks x y => match x.ev g with
    | .agg cs => match y.ev g with
      | .agg ds => match aggEq ks cs ds with
        | none => False
        | some p => match ne with
          | false => K (.bool p) none none
          | true => K (.bool (!p)) none none
      | _ => False
    | _ => False
  | .eqB ne x y => match x.ev g with
    | .bool a => match y.ev g with
      | .bool b => match ne with
        | false => K (.bool (decide (a = b))) none none
        | true => K (.bool (!decide (a = b))) none none
      | _ => False
    | _ => False
  | .un op x => unK op (x.ev g) fun v => K v none none
  | .cv c x => cvK c (x.ev g) fun v => K v none none
  | .alloc b es zero => match bs[b]? with
    | some none => K (.ptr b es 0 0) none (some (b, some ⟨true, es, [zero]⟩))
    | _ => False
  | .box b es x => match bs[b]? with
    | some none => match (x.ev g) with
      | .agg cs => if cs.length = es then frcL (cs.map AV.up) fun l => K (.ptr b es 0 0) none (some (b, some ⟨true, es, [l]⟩)) else False
      | .ptr .. | .eptr .. | .bsl .. | .tuple .. | .fn .. | .mp .. | .top => False
      | a => if es = 1 then frcL [a.up] fun l => K (.ptr b es 0 0) none (some (b, some ⟨true, es, [l]⟩)) else False
    | _ => False
  | .ld n p => match p.ev g with
    | .ptr b es i off => match bs[b]? with
      | some (some ⟨_, es', xs⟩) => if es = es' then
          match n with
          | none => cellAt xs i off fun c => K c.share none none
          | some m => match xs[i]? with
            | none => False
            | some x => match Nat.ble (off + m) x.length with
              | true => K (.agg (((x.drop off).take m).map AV.share)) none none
              | false => False
        else False
      | _ => False
    | .eptr cs off => match n with
      | none => match cs[off]? with
        | none => False
        | some c => K c.share none none
      | some m => match Nat.ble (off + m) cs.length with
        | true => K (.agg (((cs.drop off).take m).map AV.share)) none none
        | false => False
    | _ => False
  | .ldt p => match p.ev g with
    | .ptr b es i off => match bs[b]? with
      | some (some ⟨one, es', xs⟩) => if es = es' then match xs[i]? with
          | none => False
          | some y => match y[off]? with
            | none => False
            | some c => frcL (y.set off c.share) fun y' => setRow xs i y' (fun xs' => K c none (some (b, some ⟨one, es', xs'⟩))) one else False
      | _ => False
    | _ => False
  | .st n p x => match p.ev g with
    | .ptr b es i off => match bs[b]? with
      | some (some ⟨one, es', xs⟩) => if es = es' then
          match xs[i]? with
          | none => False
          | some y => match (x.ev g) with
            | .ptr .. | .eptr .. | .bsl .. | .tuple .. | .fn .. | .mp .. | .top => False
            | v => match Nat.beq v.cells.length n, Nat.ble (off + v.cells.length) y.length with
              | true, true => frcL (putC y off (v.cells.map AV.up)) fun y' => setRow xs i y' (fun xs' => K .top none (some (b, some ⟨one, es', xs'⟩))) one
              | _, _ => False
        else False
      | _ => False
    | _ => False
  | .stt p n => match p.ev g with
    | .ptr b es i off => match bs[b]? with
      | some (some ⟨one, es', xs⟩) => if es = es' then
          match xs[i]? with
          | none => False
          | some y => match g n with
            | .sl p0 es0 xs0 => if off < y.length then frcL (y.set off (.sl p0 es0 xs0)) fun y' => setRow xs i y' (fun xs' => K .top (some (n, (AV.sl p0 es0 xs0).share)) (some (b, some ⟨one, es', xs'⟩))) one else False
            | _ => False
        else False
      | _ => False
    | _ => False
  | .fa off p => match p.ev g with
    | .ptr b es i o => K (.ptr b es i (o + off)) none none
    | .eptr cs o => K (.eptr cs (o + off)) none none
    | _ => False
  | .ia es n x i => asI (i.ev g) fun k => match x.ev g with
    | .sl _ es' xs => if es = es' then 0 ≤ k ∧ (match n with | none => True | some _ => False) ∧ ∃ c, xs[k.toNat]? = some c ∧ K (.eptr c 0) none none
      else False
    | .bsl b es' off ln => if es = es' then 0 ≤ k ∧ (match n with | none => True | some _ => False) ∧ k < ln ∧ K (.ptr b es (off + k.toNat) 0) none none else False
    | .ptr b es0 i0 off => match n with
      | none => False
      | some n => 0 ≤ k ∧ k < n ∧ K (.ptr b es0 i0 (off + k.toNat * es)) none none
    | .eptr cs off => match n with
      | none => False
      | some n => 0 ≤ k ∧ k < n ∧ K (.eptr cs (off + k.toNat * es)) none none
    | _ => False
  | .ixS x i => asI (i.ev g) fun k => match x.ev g with
    | .str s => 0 ≤ k ∧ ∃ c, s[k.toNat]? = some c ∧ K (.int .u8 (c.toNat : Int)) none none
    | _ => False
  | .ixA n x i => asI (i.ev g) fun k => match x.ev g with
    | .agg cs => if cs.length = n then 0 ≤ k ∧ ∃ c, cs[k.toNat]? = some c ∧ K c.share none none
      else False
    | _ => False
  | .fld off n x => match x.ev g with
    | .agg cs => match n with
      | none => match cs[off]? with
        | none => False
        | some c => K c.share none none
      | some m => match Nat.ble (off + m) cs.length with
        | true => K (.agg (((cs.drop off).take m).map AV.share)) none none
        | false => False
    | _ => False
  | .sub es x lo hi mx => match x.ev g with
    | .sl _ es' xs => if es = es' then
        optI (lo.map (·.ev g)) 0 fun l => optI (hi.map (·.ev g)) (xs.length : Int) fun h =>
          match mx with
          | none => 0 ≤ l ∧ l ≤ h ∧ h ≤ (xs.length : Int) ∧ K (.sl .sh es ((xs.take h.toNat).drop l.toNat)) none none
          | some m => asI (m.ev g) fun m => m = h ∧ 0 ≤ l ∧ l ≤ h ∧ h ≤ (xs.length : Int) ∧ match hi with
            | none => False
            | some _ => K (.sl .clip es ((xs.take h.toNat).drop l.toNat)) none none
      else False
    | _ => False
  | .subS x lo hi => match x.ev g with
    | .str s => optI (lo.map (·.ev g)) 0 fun l => optI (hi.map (·.ev g)) (s.length : Int) fun h =>
          0 ≤ l ∧ l ≤ h ∧ h ≤ (s.length : Int) ∧ K (.str ((s.take h.toNat).drop l.toNat)) none none
    | _ => False
  | .bs es xs => match allPlain (xs.map fun x => x.ev g) with
    | true => cellsOf (xs.map fun x => x.ev g) fun cs => match allLen es cs with
      | true => K (.sl .own es cs) none none
      | false => False
    | false => False
  | .bld zero ps => match allPlain (ps.map fun p => p.2.2.ev g) with
    | true => match fillA zero (ps.map fun p => (p.1, p.2.1, p.2.2.ev g)) with
      | none => False
      | some cs => K (.agg cs) none none
    | false => False
  | .ext x i => match x.ev g with
    | .tuple vs => match vs[i]? with
      | none => False
      | some c => K c.share none none
    | _ => False
  | .extt n i => match g n with
    | .tuple vs => match vs[i]? with
      | none => False
      | some c => K c (some (n, .tuple (vs.set i c.share))) none
    | _ => False
  | .call f xs => match allHeld (xs.map fun x => x.ev g) with
    | true => frcL (xs.map fun x => (x.ev g).shr) fun vs => ∃ r, G f vs r ∧ K r none none
    | false => False
  | .app es bytes x y => match x.ev g with
    | .sl p es' xs => if es = es' then
        match y.ev g with
        | .sl _ es'' ys => if es = es'' then
            (p = .own ∨ p = .nil ∨ p = .clip ∧ ys ≠ []) ∧ xs.length + ys.length ≤ maxLen ∧ (xs.length + ys.length) * bytes ≤ 140737488355328 ∧
            K (.sl .own es (xs ++ ys)) (match x with | .t n => some (n, .sl .sh es xs) | .c _ => none) none
          else False
        | _ => False
      else False
    | _ => False
  | .appS bytes x y => match x.ev g with
    | .sl p es xs => if es = 1 then
        match y.ev g with
        | .str s => (p = .own ∨ p = .nil ∨ p = .clip ∧ s ≠ []) ∧ xs.length + s.length ≤ maxLen ∧ (xs.length + s.length) * bytes ≤ 140737488355328 ∧
            K (.sl .own es (xs ++ bytesAV s)) (match x with | .t n => some (n, .sl .sh es xs) | .c _ => none) none
        | _ => False
      else False
    | _ => False
  | .len x => match x.ev g with
    | .sl _ _ xs => K (.int .i64 (xs.length : Int)) none none
    | .bsl _ _ _ n => K (.int .i64 (n : Int)) none none
    | _ => False
  | .lenS x => match x.ev g with
    | .str s => K (.int .i64 (s.length : Int)) none none
    | _ => False
  | .mm mx xs => match xs with
    | [] => False
    | x :: r => foldMM mx (x.ev g) (r.map (·.ev g)) fun v => K v none none
  | .mk es bytes zero l c => asI (l.ev g) fun l => asI (c.ev g) fun c => 0 ≤ l ∧ l ≤ c ∧ (bytes : Int) * c ≤ 140737488355328 ∧ c ≤ 9223372036854775807 ∧
      K (.sl .own es (List.replicate l.toNat zero)) none none
  | .ldr n p => match p.ev g with
    | .ptr b es i off => match bs[b]? with
      | some (some ⟨_, es', xs⟩) => if es = es' then ∃ x, xs[i]? = some x ∧
          match n with
          | none => match x[off]? with
            | none => False
            | some c => K c.share none none
          | some m => match Nat.ble (off + m) x.length with
              | true => K (.agg (((x.drop off).take m).map AV.share)) none none
              | false => False
        else False
      | _ => False
    | _ => False
  | .sto n p x => match p.ev g with
    | .ptr b es i off => match bs[b]? with
      | some (some ⟨false, es', xs⟩) => if es = es' then ∃ y, xs[i]? = some y ∧
          match (x.ev g) with
            | .ptr .. | .eptr .. | .bsl .. | .tuple .. | .fn .. | .mp .. | .top => False
            | v => match Nat.beq v.cells.length n, Nat.ble (off + v.cells.length) y.length with
              | true, true => frcL (putC y off (v.cells.map AV.up)) fun y' => K .top none (some (b, some ⟨false, es', xs.set i y'⟩))
              | _, _ => False
        else False
      | _ => False
    | _ => False
  | .callB b es f xs => match bs[b]? with
    | some none => match allHeld (xs.map fun x => x.ev g) with
      | true => frcL (xs.map fun x => (x.ev g).shr) fun vs => ∃ ys, G f vs (.sl .own es ys) ∧ flatRows ys ∧ K (.bsl b es 0 ys.length) none (some (b, some ⟨false, es, ys⟩))
      | false => False
    | _ => False
  | .bsc es => K (.sl .clip es []) none none
  | .iaE es x i => asI (i.ev g) fun k => match x.ev g with
    | .sl _ es' xs => if es = es' then 0 ≤ k ∧ ∃ c, xs[k.toNat]? = some c ∧ K (.eptr c 0) none none else False
    | _ => False
  | .appB b es bytes x y => match bs[b]? with
    | some none => match (match x with | none => true | some n => match g n with | .sl .clip es' [] => Nat.beq es es' | _ => false) with
     | false => False
     | true => match y.ev g with
      | .sl _ es' ys => if es = es' then ys.length ≤ maxLen ∧ ys.length * bytes ≤ 140737488355328 ∧ flatRows ys ∧ K (.bsl b es 0 ys.length) none (some (b, some ⟨false, es, ys⟩)) else False
      | _ => False
    | _ => False
  | .bsB b es xs => match bs[b]? with
    | some none => match allPlain (xs.map fun x => x.ev g) with
      | true => cellsOf (xs.map fun x => x.ev g) fun cs => match allLen es cs with
        | true => flatRows cs ∧ K (.bsl b es 0 cs.length) none (some (b, some ⟨false, es, cs⟩))
        | false => False
      | false => False
    | _ => False
  | .ldo p => match p.ev g with
    | .ptr b es i off => match bs[b]? with
      | some (some ⟨_, es', xs⟩) => if es = es' then match xs[i]? with
          | none => False
          | some x => ∃ c, x[off]? = some c ∧ K c.share none none
        else False
      | _ => False
    | .eptr cs off => ∃ c, cs[off]? = some c ∧ K c.share none none
    | _ => False
  | .nilQ ne x => match x.ev g with
    | .sl _ _ xs => (decide (xs.length = 0) = true → K (.bool (!ne)) none none ∧ K (.bool ne) none none) ∧ (decide (xs.length = 0) = false → K (.bool ne) none none)
    | _ => False
  | .callN es f xs => match allHeld (xs.map fun x => x.ev g) with
    | true => frcL (xs.map fun x => (x.ev g).shr) fun vs => ∃ r, G f (.sl .nil es [] :: vs) r ∧ K r none none
    | false => False
  | .callv n f xs => match g n with
    | .fn f' => f' = f ∧ match allHeld (xs.map fun x => x.ev g) with
      | true => frcL (xs.map fun x => (x.ev g).shr) fun vs => ∃ r, G f vs r ∧ K r none none
      | false => False
    | _ => False
  | .allocR b n es zero => match bs[b]? with
    | some none => K (.ptr b es 0 0) none (some (b, some ⟨false, es, List.replicate n zero⟩))
    | _ => False
  | .iaR es n x i => asI (i.ev g) fun k => match x.ev g with
    | .ptr b es' i0 off => if es = es' then match off with
      | 0 => 0 ≤ k ∧ k < n ∧ K (.ptr b es (i0 + k.toNat) 0) none none
      | _ + 1 => False else False
    | _ => False
  | .nilB b es => match bs[b]? with
    | some none => K (.bsl b es 0 0) none (some (b, some ⟨false, es, []⟩))
    | _ => False
  | .bad => False

structure AOper where
  dst : Option Nat
  op : AOp
  guard : Option (Nat × Bool)

def frcV (v : AV) (K : AV → Prop) : Prop :=
  match v with
  | .top => K .top
  | .bool b => K (.bool b)
  | .int k n => K (.int k n)
  | .str s => K (.str s)
  | .sl p es xs => K (.sl p es xs)
  | .agg cs => frcL cs fun cs => K (.agg cs)
  | .tuple vs => K (.tuple vs)
  | .ptr b es i off => K (.ptr b es i off)
  | .eptr cs off => K (.eptr cs off)
  | .bsl b es off n => K (.bsl b es off n)
  | .fn f => K (.fn f)
  | .mp f => K (.mp f)
def frc : List AV → (List AV → Prop) → Prop
  | [], K => K []
  | a :: r, K => frc r fun r' => K (a :: r')
theorem frcV_eq (v : AV) (K : AV → Prop) : frcV v K = K v := by cases v <;> simp only [frcV, frcL_eq]
theorem frc_eq (l : List AV) : ∀ K, frc l K = K l := by
  induction l with
  | nil => intro K; rfl
  | cons a r ih => intro K; simp only [frc, ih]

def St.setO (σ : St) (x : Option (Nat × AV)) : St := match x with | some (t, a) => σ.set t a | none => σ
def St.app (σ : St) (d : Option Nat) (v : AV) (ts : Option (Nat × AV)) (bx : Option (Nat × Option Box)) : St := ((σ.setO ts).setB bx).setD d v
def frcO (x : Option (Nat × AV)) (K : Option (Nat × AV) → Prop) : Prop :=
  match x with
  | none => K none
  | some (t, a) => frcV a fun a => K (some (t, a))
theorem frcO_eq (x : Option (Nat × AV)) (K : Option (Nat × AV) → Prop) : frcO x K = K x := by
  cases x with
  | none => rfl
  | some p => exact frcV_eq p.2 (fun a => K (some (p.1, a)))
/-- the state behind an operation, laid open -/
def St.next (σ : St) (d : Option Nat) (K : St → Prop) : Cont := fun v ts bx =>
  frcV v fun v => frcO ts fun ts => frc ((σ.setO ts).setD d v).v fun vl => match bx with
    | none => frcB σ.b fun bl => K ⟨vl, bl⟩
    | some (b, x) => frcB (σ.b.set b x) fun bl => K ⟨vl, bl⟩
theorem St.b_setO (σ : St) (x : Option (Nat × AV)) : (σ.setO x).b = σ.b := by cases x <;> rfl
theorem St.next_eq (σ : St) (d : Option Nat) (K : St → Prop) (v : AV) (ts : Option (Nat × AV)) (bx : Option (Nat × Option Box)) : σ.next d K v ts bx = K (σ.app d v ts bx) := by
  unfold St.next
  rw [frcV_eq, frcO_eq, frc_eq]
  cases bx with
  | none =>
    show frcB σ.b _ = _
    rw [frcB_eq]
    cases ts with
    | none => cases d <;> rfl
    | some p => cases d <;> rfl
  | some p =>
    show frcB (σ.b.set p.1 p.2) _ = _
    rw [frcB_eq]
    cases ts with
    | none => cases d <;> rfl
    | some q => cases d <;> rfl

theorem St.set_self {σ : St} {t : Nat} {x : AV} (h : σ.get t = x) : σ.set t x = σ := by
  subst h
  unfold St.set St.get
  obtain ⟨v, b⟩ := σ
  congr 1
  apply List.ext_getElem?
  intro i
  rw [List.getElem?_set]
  by_cases hi : t = i
  · subst hi
    by_cases ht : t < v.length
    · simp [ht, List.getD_eq_getElem?_getD]
    · simp [ht, List.getElem?_eq_none (Nat.le_of_not_lt ht)]
  · simp [hi]
def AOper.ev (G : Goods) (o : AOper) (σ : St) (K : St → Prop) : Prop :=
  match o.guard with
  | none => o.op.sem G σ.get σ.b (σ.next o.dst K)
  | some (t, want) => match σ.get t with
    | .bool b => (b = want → frc (σ.set t (.bool want)).v fun vl => o.op.sem G (St.get ⟨vl, σ.b⟩) σ.b (St.next ⟨vl, σ.b⟩ o.dst K)) ∧
      (b = (!want) → frc ((σ.set t (.bool (!want))).setD o.dst (.tuple [])).v fun vl => frcB σ.b fun bl => K ⟨vl, bl⟩)
    | .tuple _ => frc (σ.setD o.dst (.tuple [])).v fun vl => frcB σ.b fun bl => K ⟨vl, bl⟩
    | _ => False

/-- what is known of a test, in its place -/
def Arg.lit (c : Arg) (σ : St) (b : Bool) : List AV :=
  match c with
  | .t n => σ.v.set n (.bool b)
  | .c _ => σ.v

def evOps (G : Goods) : List AOper → St → (St → Prop) → Prop
  | [], σ, K => K σ
  | o :: r, σ, K => o.ev G σ fun σ' => evOps G r σ' K

inductive AC where
  | skip
  | reg (ops : List AOper)
  | drw (ops : List AOper) (ps : List (Nat × Nat))
  | seq (a b : AC)
  | cond (c : Arg) (a b : AC)
  | block (id : Nat) (a : AC)
  | loop (cl : List Bool) (cb : List Nat) (a : AC)
  | exit (id : Nat)
  | ret
  | scope (a : AC)
  | frz (b t : Nat) (a : AC)
  | goto (l : Nat)
  | lab (cl : List Bool) (cb : List Nat) (a : AC)
  | gsc (a : AC) (l1 : Nat) (cl1 : List Bool) (cb1 : List Nat) (r1 : AC) (l2 : Nat) (cl2 : List Bool) (cb2 : List Nat) (r2 : AC)
  | cpy (es bytes : Nat) (zero : List AV) (off p x d1 d2 d3 d4 d5 d6 d7 d8 : Nat)
  | mkm (d m : Nat)
  | minc (m k d1 d2 d3 d4 : Nat)
  | mget (m k d1 d2 d3 d4 : Nat)
  | grw (pre : List AOper) (d n b es bytes : Nat) (y : Arg) (post : List AOper)

inductive AX where
  | normal
  | exit (id : Nat)
  | ret
  | goto (l : Nat)

/-- at the head of a round: these temporaries and boxes are known no more -/
def clrM : List Bool → List AV → List AV
  | [], v => v
  | _ :: _, [] => []
  | true :: m, _ :: v => .top :: clrM m v
  | false :: m, a :: v => a :: clrM m v
def St.clear (σ : St) (cl : List Bool) (cb : List Nat) : St :=
  ⟨clrM cl σ.v, cb.foldl (fun v t => v.set t none) σ.b⟩
/-- these temporaries are read alone from here on -/
def St.weak (σ : St) (ws : List Nat) : St := ⟨ws.foldl (fun v t => v.set t (v.getD t .top).share) σ.v, σ.b⟩
def AV.okRef (bs : List (Option Box)) (a : AV) : Bool :=
  match a.ref with
  | none => true
  | some b => match bs[b]? with
    | some (some _) => true
    | _ => false
def St.okRefs (σ : St) : Bool := σ.v.all (AV.okRef σ.b)

/-- the box that a temporary points into; a number from 1000000 on stands for a box itself -/
def St.refO (σ : St) (n : Nat) : Option Nat :=
  match Nat.ble 1000000 n with
  | true => some (n - 1000000)
  | false => (σ.get n).ref
/-- these pairs of temporaries point into different boxes -/
def St.apart (σ : St) : List (Nat × Nat) → Bool
  | [] => true
  | (a, b) :: r => match σ.refO a with
    | none => σ.apart r
    | some i => match σ.refO b with
      | none => σ.apart r
      | some j => match Nat.beq i j with
        | true => false
        | false => σ.apart r

/-- what follows, told by name: a term holds it once -/
def kSeq (eb : St → (AX → St → Prop) → Prop) (K : AX → St → Prop) : AX → St → Prop
  | .normal, σ => eb σ K
  | .exit i, σ => K (.exit i) σ
  | .ret, σ => K .ret σ
  | .goto l, σ => K (.goto l) σ
def kBlk (id : Nat) (K : AX → St → Prop) : AX → St → Prop
  | .normal, σ => K .normal σ
  | .exit i, σ => match Nat.beq i id with
    | true => K .normal σ
    | false => K (.exit i) σ
  | .ret, σ => K .ret σ
  | .goto l, σ => K (.goto l) σ
def kRnd (next : St → Prop) (K : AX → St → Prop) : AX → St → Prop
  | .normal, σ => next σ
  | .exit i, σ => K (.exit i) σ
  | .ret, σ => K .ret σ
  | .goto l, σ => K (.goto l) σ
/-- a scope out of which no jump leads -/
def kScp (K : AX → St → Prop) : AX → St → Prop
  | .normal, σ => K .normal σ
  | .exit i, σ => K (.exit i) σ
  | .ret, σ => K .ret σ
  | .goto _, _ => False
/-- a scope whose jumps go on in it -/
def kGot (J : Nat → St → Prop) (K : AX → St → Prop) : AX → St → Prop
  | .normal, σ => K .normal σ
  | .exit i, σ => K (.exit i) σ
  | .ret, σ => K .ret σ
  | .goto l, σ => J l σ

/-- at most n rounds -/
def iter (body : St → (AX → St → Prop) → Prop) (cl : List Bool) (cb : List Nat) : Nat → St → (AX → St → Prop) → Prop
  | 0, _, _ => False
  | n + 1, σ, K => ∃ ws : List Nat, ((σ.clear cl cb).weak ws).okRefs = true ∧ body ((σ.clear cl cb).weak ws) (kRnd (fun σ' => iter body cl cb n σ' K) K)
structure loopA (body : St → (AX → St → Prop) → Prop) (cl : List Bool) (cb : List Nat) (σ : St) (K : AX → St → Prop) : Prop where
  out : ∃ n, iter body cl cb n σ K

/-- a label that is come to from above -/
structure labA (body : St → (AX → St → Prop) → Prop) (cl : List Bool) (cb : List Nat) (σ : St) (K : AX → St → Prop) : Prop where
  out : ∃ ws : List Nat, ((σ.clear cl cb).weak ws).okRefs = true ∧ body ((σ.clear cl cb).weak ws) K
/-- at most n jumps -/
def jmp (b1 b2 : St → (AX → St → Prop) → Prop) (l1 : Nat) (cl1 : List Bool) (cb1 : List Nat) (l2 : Nat) (cl2 : List Bool) (cb2 : List Nat) (K : AX → St → Prop) : Nat → Nat → St → Prop
  | 0, _, _ => False
  | n + 1, l, σ => (l = l1 ∧ ∃ ws : List Nat, ((σ.clear cl1 cb1).weak ws).okRefs = true ∧ b1 ((σ.clear cl1 cb1).weak ws) (kGot (jmp b1 b2 l1 cl1 cb1 l2 cl2 cb2 K n) K)) ∨
    (l = l2 ∧ ∃ ws : List Nat, ((σ.clear cl2 cb2).weak ws).okRefs = true ∧ b2 ((σ.clear cl2 cb2).weak ws) (kGot (jmp b1 b2 l1 cl1 cb1 l2 cl2 cb2 K n) K))
structure jumpA (b1 b2 : St → (AX → St → Prop) → Prop) (l1 : Nat) (cl1 : List Bool) (cb1 : List Nat) (l2 : Nat) (cl2 : List Bool) (cb2 : List Nat) (K : AX → St → Prop) (l : Nat) (σ : St) : Prop where
  out : ∃ n, jmp b1 b2 l1 cl1 cb1 l2 cl2 cb2 K n l σ

def evC (G : Goods) : AC → St → (AX → St → Prop) → Prop
  | .skip, σ, K => K .normal σ
  | .reg ops, σ, K => evOps G ops σ (K .normal)
  | .drw ops ps, σ, K => σ.apart ps = true ∧ evOps G ops σ (K .normal)
  | .seq a b, σ, K => evC G a σ (kSeq (evC G b) K)
  | .cond c a b, σ, K => match c.ev σ.get with
    | .bool t => (t = true → frc (c.lit σ true) fun vl => evC G a ⟨vl, σ.b⟩ K) ∧ (t = false → frc (c.lit σ false) fun vl => evC G b ⟨vl, σ.b⟩ K)
    | _ => False
  | .block id a, σ, K => evC G a σ (kBlk id K)
  | .loop cl cb a, σ, K => loopA (evC G a) cl cb σ K
  | .exit id, σ, K => K (.exit id) σ
  | .ret, σ, K => K .ret σ
  | .scope a, σ, K => evC G a σ (kScp K)
  | .goto l, σ, K => K (.goto l) σ
  | .lab cl cb a, σ, K => labA (evC G a) cl cb σ K
  | .gsc a l1 cl1 cb1 r1 l2 cl2 cb2 r2, σ, K => evC G a σ (kGot (jumpA (evC G r1) (evC G r2) l1 cl1 cb1 l2 cl2 cb2 K) K)
  | .frz b t a, σ, K => match σ.get t with
    | .bsl b' es off len => match σ.b[b]? with
      | some (some ⟨false, es', xs⟩) => b' = b ∧ es = es' ∧ off + len ≤ xs.length ∧ flatRows xs ∧
          frc ((σ.v.map (AV.kill b)).set t (.sl .sh es ((xs.drop off).take len))) fun vl => frcB (σ.b.set b none) fun bl => evC G a ⟨vl, bl⟩ K
      | _ => False
    | _ => False
  | .grw pre d n b es bytes y post, σ, K => evOps G pre σ fun σ1 => match σ1.get n with
    | .bsl b' es' off len => match σ1.b[b]? with
      | some (some ⟨false, es2, xs⟩) => match y.ev σ1.get with
        | .sl _ es3 ys => match Nat.beq b' b, Nat.beq es' es, Nat.beq es2 es, Nat.beq es3 es, Nat.beq off 0 with
          | true, true, true, true, true => xs.length = len ∧ 0 < ys.length ∧ len + ys.length ≤ maxLen ∧ (len + ys.length) * bytes ≤ 140737488355328 ∧ flatRows xs ∧ flatRows ys ∧
              frc ((σ1.v.map (AV.kill b)).set d (.bsl b es 0 (len + ys.length))) fun vl => frcB (σ1.b.set b (some ⟨false, es, xs ++ ys⟩)) fun bl => evOps G post ⟨vl, bl⟩ (K .normal)
          | _, _, _, _, _ => False
        | _ => False
      | _ => False
    | _ => False
  | .cpy es bytes _ off p x d1 d2 d3 d4 d5 d6 d7 d8, σ, K => match σ.get x with
    | .sl _ es' ys => match σ.get p with
      | .ptr b es1 i o => match σ.b[b]? with
        | some (some ⟨one, es2, xs⟩) => match Nat.beq es es', Nat.beq es1 es2, Nat.ble (d7 + 1) σ.v.length with
          | true, true, true => match xs[i]? with
            | none => False
            | some y => match Nat.ble (o + off + 1) y.length with
              | true => 0 < ys.length ∧ ys.length * bytes ≤ 140737488355328 ∧
                frc ((((((((σ.v.set d1 .top).set d2 .top).set d3 .top).set d4 .top).set d5 .top).set d6 .top).set d7 .top).set d8 .top) fun vl =>
                  frcL (y.set (o + off) (.sl .sh es ys)) fun y' => setRow xs i y' (fun xs' => frcB (σ.b.set b (some ⟨one, es2, xs'⟩)) fun bl => K .normal ⟨vl, bl⟩) one
              | false => False
          | _, _, _ => False
        | _ => False
      | _ => False
    | _ => False
  | .mkm d m, σ, K => match Nat.ble (d + 1) σ.v.length, Nat.ble (m + 1) σ.v.length with
    | true, true => frc ((σ.v.set d .top).set m (.mp fun _ => 0)) fun vl => K .normal ⟨vl, σ.b⟩
    | _, _ => False
  | .minc m k d1 d2 d3 d4, σ, K => match σ.get m with
    | .mp f => match σ.get k with
      | .str s => match Nat.ble (d4 + 1) σ.v.length with
        | true => frc (((((σ.v.set m (.mp fun x => if x = s then IntKind.i64.wrap (f s + 1) else f x)).set d1 .top).set d2 .top).set d3 .top).set d4 .top) fun vl => K .normal ⟨vl, σ.b⟩
        | false => False
      | _ => False
    | _ => False
  | .mget m k d1 d2 d3 d4, σ, K => match σ.get m with
    | .mp f => match σ.get k with
      | .str s => match Nat.ble (d4 + 1) σ.v.length with
        | true => frc ((((σ.v.set d1 .top).set d2 .top).set d3 .top).set d4 (.bool (decide (f s = 1)))) fun vl => K .normal ⟨vl, σ.b⟩
        | false => False
      | _ => False
    | _ => False
end Go.Proofs.Ytfkihagcgjombaa

/- Each operation as data is told rightly, if the check says that it is the program's. No program's fact stands here. -/
import Derived.Test.YtfkihagcgjombaaAwE
namespace Go.Proofs.Ytfkihagcgjombaa
open Go.RowKit

section
variable {P : Program} {g : Gh} {w0 : World} {I0 : Cells} {σ : St} {a : Act} {w : World}

def isStr (P : Program) (t : TypeId) : Bool := match P.underlying t with | some .string => true | _ => false
def isBool (P : Program) (t : TypeId) : Bool := match P.underlying t with | some .bool => true | _ => false
theorem isStr_inv {t : TypeId} (h : isStr P t = true) : P.underlying t = some .string := by unfold isStr at h; split at h <;> first | assumption | cases h
theorem isBool_inv {t : TypeId} (h : isBool P t = true) : P.underlying t = some .bool := by unfold isBool at h; split at h <;> first | assumption | cases h
def dstNe (x : Arg) (d : Option Nat) : Bool :=
  match x with
  | .c _ => true
  | .t n => match d with
    | none => true
    | some m => !Nat.beq m n
theorem dstNe_inv {x : Arg} {d : Option Nat} (h : dstNe x d = true) : ∀ n, x = .t n → d ≠ some n := by
  intro n hx hd
  subst hx; subst hd
  simp [dstNe] at h

def chkOp (P : Program) (ao : AOp) (o : Oper) : Bool :=
  match ao with
  | .cp x => match o.op with
    | .move y => chkArg x y
    | .assign y => chkArg x y
    | _ => false
  | .tk n => match o.op with
    | .move (.tmp m) => Nat.beq n m && dstNe (.t n) o.dst
    | .assign (.tmp m) => Nat.beq n m && dstNe (.t n) o.dst
    | _ => false
  | .pick c x y => match o.op with
    | .pick c' x' y' => chkArg c c' && chkArg x x' && chkArg y y'
    | _ => false
  | .bin op x y => match o.op with
    | .binOp op' _ x' y' _ => decide (op = op') && chkArg x x' && chkArg y y'
    | _ => false
  | .eqA ne ks x y => match o.op with
    | .binOp op' t x' y' _ => decide (op' = if ne then .neq else .eql) && eqAT P t ks && chkArg x x' && chkArg y y'
    | _ => false
  | .eqB ne x y => match o.op with
    | .binOp op' t x' y' _ => decide (op' = if ne then .neq else .eql) && isBool P t && chkArg x x' && chkArg y y'
    | _ => false
  | .un op x => match o.op with
    | .unOp op' _ x' => decide (op = op') && chkArg x x'
    | _ => false
  | .cv c x => match o.op with
    | .convert s d x' => cvT P c s d && chkArg x x'
    | _ => false
  | .alloc _ es zero => match o.op with
    | .alloc t => zeroT P t zero && Nat.beq zero.length es
    | _ => false
  | .box _ _ x => match o.op with
    | .box _ x' => chkArg x x'
    | _ => false
  | .ld n p => match o.op with
    | .load t p' => varT P t n && chkArg p p'
    | _ => false
  | .ldt p => match o.op with
    | .load t p' => leafT P t && chkArg p p'
    | _ => false
  | .st n p x => match o.op with
    | .store t p' x' => sizeT P t n && o.dst.isNone && chkArg p p' && chkArg x x'
    | _ => false
  | .stt p n => match o.op with
    | .store t p' (.tmp m) => Nat.beq n m && sizeT P t 1 && o.dst.isNone && chkArg p p'
    | _ => false
  | .fa off p => match o.op with
    | .fieldAddr t p' f => fieldT P t f off && chkArg p p'
    | _ => false
  | .ia es n x i => match o.op with
    | .indexAddr t x' i' => elemT P t n es && chkArg x x' && chkArg i i'
    | _ => false
  | .ixS x i => match o.op with
    | .index t x' i' => isStr P t && chkArg x x' && chkArg i i'
    | _ => false
  | .ixA n x i => match o.op with
    | .index t x' i' => arrT P t n && chkArg x x' && chkArg i i'
    | _ => false
  | .fld off n x => match o.op with
    | .field t x' f => fldT P t f off n && chkArg x x'
    | _ => false
  | .sub es x lo hi mx => match o.op with
    | .slice t x' lo' hi' mx' => sliceT P t && sizeT P (P.elem t) es && chkArg x x' && chkO lo lo' && chkO hi hi' && chkO mx mx'
    | _ => false
  | .subS x lo hi => match o.op with
    | .slice t x' lo' hi' none => isStr P t && chkArg x x' && chkO lo lo' && chkO hi hi'
    | _ => false
  | .bs es xs => match o.op with
    | .buildSlice t n qs => bsT P t es n xs qs.toList
    | _ => false
  | .bld zero ps => match o.op with
    | .build t qs => bldT P t zero ps qs.toList
    | _ => false
  | .ext x i => match o.op with
    | .extract x' j => Nat.beq i j && chkArg x x'
    | _ => false
  | .extt n i => match o.op with
    | .extract (.tmp m) j => Nat.beq n m && Nat.beq i j && dstNe (.t n) o.dst
    | _ => false
  | .call f xs => match o.op with
    | .call ⟨.value (.func f'), ys, _⟩ => Nat.beq f f' && callT P f && chkArgs xs ys.toList
    | _ => false
  | .app es bytes x y => match o.op with
    | .call ⟨.builtin .append, ⟨[x', y']⟩, ⟨[t, u]⟩⟩ => appT P t es bytes && srcT P u && chkArg x x' && chkArg y y' && dstNe x o.dst
    | _ => false
  | .appS bytes x y => match o.op with
    | .call ⟨.builtin .append, ⟨[x', y']⟩, ⟨[t, u]⟩⟩ => appT P t 1 bytes && srcT P u && chkArg x x' && chkArg y y' && dstNe x o.dst
    | _ => false
  | .len x => match o.op with
    | .call ⟨.builtin .len, ⟨[x']⟩, ⟨[t]⟩⟩ => sliceT P t && chkArg x x'
    | _ => false
  | .lenS x => match o.op with
    | .call ⟨.builtin .len, ⟨[x']⟩, ⟨[t]⟩⟩ => isStr P t && chkArg x x'
    | _ => false
  | .mm mx xs => match o.op with
    | .call ⟨.builtin b, ys, _⟩ => (match b with | .max => mx | .min => !mx | _ => false) && chkArgs xs ys.toList
    | _ => false
  | .mk es bytes zero l c => match o.op with
    | .makeSlice t l' c' => mkT P t es bytes zero && chkArg l l' && chkArg c c'
    | _ => false
  | .ldr n p => match o.op with
    | .load t p' => varT P t n && chkArg p p'
    | _ => false
  | .sto n p x => match o.op with
    | .store t p' x' => sizeT P t n && o.dst.isNone && chkArg p p' && chkArg x x'
    | _ => false
  | .callB _ _ f xs => match o.op with
    | .call ⟨.value (.func f'), ys, _⟩ => Nat.beq f f' && callT P f && chkArgs xs ys.toList
    | _ => false
  | .iaE es x i => match o.op with
    | .indexAddr t x' i' => elemT P t none es && chkArg x x' && chkArg i i'
    | _ => false
  | .bsc es => match o.op with
    | .buildSlice t n qs => Nat.beq n 0 && bsT P t es n [] qs.toList
    | _ => false
  | .appB _ es bytes none y => match o.op with
    | .call ⟨.builtin .append, ⟨[.const (.slice none 0 0), y']⟩, ⟨[t, u]⟩⟩ => appT P t es bytes && srcT P u && chkArg y y'
    | _ => false
  | .appB _ es bytes (some k) y => match o.op with
    | .call ⟨.builtin .append, ⟨[.tmp m, y']⟩, ⟨[t, u]⟩⟩ => Nat.beq k m && appT P t es bytes && srcT P u && chkArg y y'
    | _ => false
  | .bsB _ es xs => match o.op with
    | .buildSlice t n qs => bsT P t es n xs qs.toList
    | _ => false
  | .ldo p => match o.op with
    | .load t p' => varT P t none && chkArg p p'
    | _ => false
  | .nilQ ne x => match o.op with
    | .binOp op' t x' (.const (.slice none 0 0)) _ => decide (op' = if ne then .neq else .eql) && sliceT P t && chkArg x x'
    | _ => false
  | .callN _ f xs => match o.op with
    | .call ⟨.value (.func f'), ⟨.const (.slice none 0 0) :: ys⟩, _⟩ => Nat.beq f f' && callT P f && chkArgs xs ys
    | _ => false
  | .callv n f xs => match o.op with
    | .call ⟨.value (.tmp m), ys, _⟩ => Nat.beq n m && callT P f && chkArgs xs ys.toList
    | _ => false
  | .allocR _ n es zero => match o.op with
    | .alloc t => zeroT P t (List.replicate n zero).flatten && Nat.beq zero.length es && zero.all AV.flat
    | _ => false
  | .iaR es n x i => match o.op with
    | .indexAddr t x' i' => elemT P t (some n) es && chkArg x x' && chkArg i i'
    | _ => false
  | .nilB _ _ => match o.op with
    | .move (.const (.slice none 0 0)) => true
    | .assign (.const (.slice none 0 0)) => true
    | _ => false
  | .bad => true

theorem sem_told (h : Rel g w0 I0 σ a w) {ao : AOp} {o : Oper} (hc : chkOp P ao o = true) {G : Goods} (hG : ∀ f xs r, G f xs r → Good P f xs r) {K : Cont} (hs : ao.sem G σ.get σ.b K) : Told P w0 I0 σ a w o K := by
  cases ao with
  | cp x =>
    simp only [chkOp] at hc
    split at hc
    · exact fun next Q hK => snd_cp h (.inl (by assumption)) hc (G := G) hs hK
    · exact fun next Q hK => snd_cp h (.inr (by assumption)) hc (G := G) hs hK
    · cases hc
  | tk n =>
    simp only [chkOp] at hc
    split at hc
    · simp only [Bool.and_eq_true] at hc
      have := Nat.eq_of_beq_eq_true hc.1
      subst this
      exact snd_tk h (.inl (by assumption)) (dstNe_inv hc.2 _ rfl) (G := G) hs
    · simp only [Bool.and_eq_true] at hc
      have := Nat.eq_of_beq_eq_true hc.1
      subst this
      exact snd_tk h (.inr (by assumption)) (dstNe_inv hc.2 _ rfl) (G := G) hs
    · cases hc
  | pick c x y =>
    simp only [chkOp] at hc
    split at hc
    · simp only [Bool.and_eq_true] at hc
      simp only [AOp.sem] at hs
      split at hs
      · rename_i b hb
        exact fun next Q hK => snd_pick h (by assumption) hc.1.1 hc.1.2 hc.2 hb (by cases b <;> first | exact hs.1 rfl | exact hs.2 rfl) hK
      · cases hs
    · cases hc
  | bin op x y =>
    simp only [chkOp] at hc
    split at hc
    · simp only [Bool.and_eq_true, decide_eq_true_eq] at hc
      obtain ⟨⟨rfl, h1⟩, h2⟩ := hc
      exact fun next Q hK => snd_bin h (by assumption) h1 h2 hs hK
    · cases hc
  | eqA ne ks x y =>
    simp only [chkOp] at hc
    split at hc
    · simp only [Bool.and_eq_true, decide_eq_true_eq] at hc
      obtain ⟨⟨⟨rfl, h1⟩, h2⟩, h3⟩ := hc
      exact snd_eqA h (by assumption) h1 h2 h3 (G := G) hs
    · cases hc
  | eqB ne x y =>
    simp only [chkOp] at hc
    split at hc
    · simp only [Bool.and_eq_true, decide_eq_true_eq] at hc
      obtain ⟨⟨⟨rfl, h1⟩, h2⟩, h3⟩ := hc
      simp only [AOp.sem] at hs
      split at hs
      · rename_i p hp
        split at hs
        · rename_i q hq
          exact fun next Q hK => snd_eqB h (by assumption) (isBool_inv h1) h2 h3 hp hq (by cases ne <;> exact hs) hK
        · cases hs
      · cases hs
    · cases hc
  | un op x =>
    simp only [chkOp] at hc
    split at hc
    · simp only [Bool.and_eq_true, decide_eq_true_eq] at hc
      obtain ⟨rfl, h1⟩ := hc
      exact fun next Q hK => snd_un h (by assumption) h1 hs hK
    · cases hc
  | cv c x =>
    simp only [chkOp] at hc
    split at hc
    · simp only [Bool.and_eq_true] at hc
      cases c with
      | int k => exact snd_cv_int h (by assumption) hc.1 hc.2 (G := G) hs
      | bytes => exact snd_cv_bytes h (by assumption) hc.1 hc.2 (G := G) hs
      | str => exact snd_cv_str h (by assumption) hc.1 hc.2 (G := G) hs
      | id => exact snd_cv_id h (by assumption) hc.1 hc.2 (G := G) hs
    · cases hc
  | alloc b es zero =>
    simp only [chkOp] at hc
    split at hc
    · simp only [Bool.and_eq_true] at hc
      exact snd_alloc h (by assumption) hc.1 (Nat.eq_of_beq_eq_true hc.2) (G := G) hs
    · cases hc
  | box b es x =>
    simp only [chkOp] at hc
    split at hc
    · exact snd_box h (by assumption) hc (G := G) hs
    · cases hc
  | ld n p =>
    simp only [chkOp] at hc
    split at hc
    · simp only [Bool.and_eq_true] at hc
      exact snd_ld h (by assumption) hc.1 hc.2 (G := G) hs
    · cases hc
  | ldt p =>
    simp only [chkOp] at hc
    split at hc
    · simp only [Bool.and_eq_true] at hc
      exact snd_ldt h (by assumption) hc.1 hc.2 (G := G) hs
    · cases hc
  | st n p x =>
    simp only [chkOp] at hc
    split at hc
    · simp only [Bool.and_eq_true, Option.isNone_iff_eq_none] at hc
      exact snd_st h (by assumption) hc.1.1.1 hc.1.1.2 hc.1.2 hc.2 (G := G) hs
    · cases hc
  | stt p n =>
    simp only [chkOp] at hc
    split at hc
    · simp only [Bool.and_eq_true, Option.isNone_iff_eq_none] at hc
      have := Nat.eq_of_beq_eq_true hc.1.1.1
      subst this
      exact snd_stt h (by assumption) hc.1.1.2 hc.1.2 hc.2 (G := G) hs
    · cases hc
  | fa off p =>
    simp only [chkOp] at hc
    split at hc
    · simp only [Bool.and_eq_true] at hc
      exact snd_fa h (by assumption) hc.1 hc.2 (G := G) hs
    · cases hc
  | ia es n x i =>
    simp only [chkOp] at hc
    split at hc
    · simp only [Bool.and_eq_true] at hc
      exact snd_ia h (by assumption) hc.1.1 hc.1.2 hc.2 (G := G) hs
    · cases hc
  | ixS x i =>
    simp only [chkOp] at hc
    split at hc
    · simp only [Bool.and_eq_true] at hc
      exact snd_ixS h (by assumption) (isStr_inv hc.1.1) hc.1.2 hc.2 (G := G) hs
    · cases hc
  | ixA n x i =>
    simp only [chkOp] at hc
    split at hc
    · simp only [Bool.and_eq_true] at hc
      exact snd_ixA h (by assumption) hc.1.1 hc.1.2 hc.2 (G := G) hs
    · cases hc
  | fld off n x =>
    simp only [chkOp] at hc
    split at hc
    · simp only [Bool.and_eq_true] at hc
      exact snd_fld h (by assumption) hc.1 hc.2 (G := G) hs
    · cases hc
  | sub es x lo hi mx =>
    simp only [chkOp] at hc
    split at hc
    · simp only [Bool.and_eq_true] at hc
      obtain ⟨⟨⟨⟨⟨h1, h2⟩, h3⟩, h4⟩, h5⟩, h6⟩ := hc
      exact snd_sub h (by assumption) h1 h2 h3 h4 h5 h6 (G := G) hs
    · cases hc
  | subS x lo hi =>
    simp only [chkOp] at hc
    split at hc
    · simp only [Bool.and_eq_true] at hc
      obtain ⟨⟨⟨h1, h2⟩, h3⟩, h4⟩ := hc
      exact snd_subS h (by assumption) (isStr_inv h1) h2 h3 h4 (G := G) hs
    · cases hc
  | bs es xs =>
    simp only [chkOp] at hc
    split at hc
    · exact snd_bs h (by assumption) hc (G := G) hs
    · cases hc
  | bld zero ps =>
    simp only [chkOp] at hc
    split at hc
    · exact snd_bld h (by assumption) hc (G := G) hs
    · cases hc
  | ext x i =>
    simp only [chkOp] at hc
    split at hc
    · simp only [Bool.and_eq_true] at hc
      have := Nat.eq_of_beq_eq_true hc.1
      subst this
      exact snd_ext h (by assumption) hc.2 (G := G) hs
    · cases hc
  | extt n i =>
    simp only [chkOp] at hc
    split at hc
    · simp only [Bool.and_eq_true] at hc
      have e1 := Nat.eq_of_beq_eq_true hc.1.1
      have e2 := Nat.eq_of_beq_eq_true hc.1.2
      subst e1; subst e2
      exact snd_extt h (by assumption) (dstNe_inv hc.2 _ rfl) (G := G) hs
    · cases hc
  | call f xs =>
    simp only [chkOp] at hc
    split at hc
    · simp only [Bool.and_eq_true] at hc
      have := Nat.eq_of_beq_eq_true hc.1.1
      subst this
      exact snd_call h (by assumption) hc.1.2 hc.2 hG hs
    · cases hc
  | app es bytes x y =>
    simp only [chkOp] at hc
    split at hc
    · simp only [Bool.and_eq_true] at hc
      obtain ⟨⟨⟨⟨h1, h2⟩, h3⟩, h4⟩, h5⟩ := hc
      exact snd_app h (by assumption) h1 h2 h3 h4 (dstNe_inv h5) (G := G) hs
    · cases hc
  | appS bytes x y =>
    simp only [chkOp] at hc
    split at hc
    · simp only [Bool.and_eq_true] at hc
      obtain ⟨⟨⟨⟨h1, h2⟩, h3⟩, h4⟩, h5⟩ := hc
      exact snd_appS h (by assumption) h1 h2 h3 h4 (dstNe_inv h5) (G := G) hs
    · cases hc
  | len x =>
    simp only [chkOp] at hc
    split at hc
    · simp only [Bool.and_eq_true] at hc
      exact snd_len h (by assumption) hc.1 hc.2 (G := G) hs
    · cases hc
  | lenS x =>
    simp only [chkOp] at hc
    split at hc
    · simp only [Bool.and_eq_true] at hc
      exact snd_lenS h (by assumption) (isStr_inv hc.1) hc.2 (G := G) hs
    · cases hc
  | mm mx xs =>
    simp only [chkOp] at hc
    split at hc
    · rename_i b ys ts ho
      simp only [Bool.and_eq_true] at hc
      have hb : b = if mx then .max else .min := by
        have := hc.1
        split at this
        · simp [this]
        · simp at this; simp [this]
        · cases this
      subst hb
      exact snd_mm h ho hc.2 (G := G) hs
    · cases hc
  | mk es bytes zero l c =>
    simp only [chkOp] at hc
    split at hc
    · simp only [Bool.and_eq_true] at hc
      exact snd_mk h (by assumption) hc.1.1 hc.1.2 hc.2 (G := G) hs
    · cases hc
  | ldr n p =>
    simp only [chkOp] at hc
    split at hc
    · simp only [Bool.and_eq_true] at hc
      exact snd_ld h (by assumption) hc.1 hc.2 (G := G) (ldr_ld hs)
    · cases hc
  | sto n p x =>
    simp only [chkOp] at hc
    split at hc
    · simp only [Bool.and_eq_true, Option.isNone_iff_eq_none] at hc
      exact snd_st h (by assumption) hc.1.1.1 hc.1.1.2 hc.1.2 hc.2 (G := G) (sto_st hs)
    · cases hc
  | callB b es f xs =>
    simp only [chkOp] at hc
    split at hc
    · simp only [Bool.and_eq_true] at hc
      have := Nat.eq_of_beq_eq_true hc.1.1
      subst this
      exact snd_callB h (by assumption) hc.1.2 hc.2 hG hs
    · cases hc
  | iaE es x i =>
    simp only [chkOp] at hc
    split at hc
    · simp only [Bool.and_eq_true] at hc
      exact snd_ia h (by assumption) hc.1.1 hc.1.2 hc.2 (G := G) (iaE_ia hs)
    · cases hc
  | bsc es =>
    simp only [chkOp] at hc
    split at hc
    · simp only [Bool.and_eq_true] at hc
      have := Nat.eq_of_beq_eq_true hc.1
      subst this
      exact snd_bsc h (by assumption) hc.2 (G := G) hs
    · cases hc
  | appB b es bytes x y =>
    cases x with
    | none =>
      simp only [chkOp] at hc
      split at hc
      · simp only [Bool.and_eq_true] at hc
        obtain ⟨⟨h1, h2⟩, h3⟩ := hc
        exact snd_appB h (by assumption) h1 h2 (.inl ⟨rfl, rfl⟩) h3 (G := G) hs
      · cases hc
    | some k =>
      simp only [chkOp] at hc
      split at hc
      · simp only [Bool.and_eq_true] at hc
        obtain ⟨⟨⟨h0, h1⟩, h2⟩, h3⟩ := hc
        have := Nat.eq_of_beq_eq_true h0
        subst this
        exact snd_appB h (by assumption) h1 h2 (.inr ⟨k, rfl, rfl⟩) h3 (G := G) hs
      · cases hc
  | bsB b es xs =>
    simp only [chkOp] at hc
    split at hc
    · exact snd_bsB h (by assumption) hc (G := G) hs
    · cases hc
  | ldo p =>
    simp only [chkOp] at hc
    split at hc
    · simp only [Bool.and_eq_true] at hc
      exact snd_ld h (by assumption) hc.1 hc.2 (G := G) (ldo_ld hs)
    · cases hc
  | nilQ ne x =>
    simp only [chkOp] at hc
    split at hc
    · simp only [Bool.and_eq_true, decide_eq_true_eq] at hc
      obtain ⟨⟨rfl, h1⟩, h2⟩ := hc
      exact snd_nilQ h (by assumption) (sliceT_inv h1) h2 (G := G) hs
    · cases hc
  | callN es f xs =>
    simp only [chkOp] at hc
    split at hc
    · simp only [Bool.and_eq_true] at hc
      have := Nat.eq_of_beq_eq_true hc.1.1
      subst this
      exact snd_callN h (by assumption) hc.1.2 hc.2 hG hs
    · cases hc
  | callv n f xs =>
    simp only [chkOp] at hc
    split at hc
    · simp only [Bool.and_eq_true] at hc
      have := Nat.eq_of_beq_eq_true hc.1.1
      subst this
      exact snd_callv h (by assumption) hc.1.2 hc.2 hG hs
    · cases hc
  | allocR b n es zero =>
    simp only [chkOp] at hc
    split at hc
    · simp only [Bool.and_eq_true] at hc
      exact snd_allocR h (by assumption) hc.1.1 (Nat.eq_of_beq_eq_true hc.1.2) hc.2 (G := G) hs
    · cases hc
  | iaR es n x i =>
    simp only [chkOp] at hc
    split at hc
    · simp only [Bool.and_eq_true] at hc
      exact snd_iaR h (by assumption) hc.1.1 hc.1.2 hc.2 (G := G) hs
    · cases hc
  | nilB b es =>
    simp only [chkOp] at hc
    split at hc
    · exact snd_nilB h (.inl (by assumption)) (G := G) hs
    · exact snd_nilB h (.inr (by assumption)) (G := G) hs
    · cases hc
  | bad => exact hs.elim
end
end Go.Proofs.Ytfkihagcgjombaa

/- A part of the proof about cellularlaw49.OrphanBalanced: lemmas only; what they say is theirs alone and no condition of the claim. -/
import Derived.Test.YtjdldndhbbkflaaGreatDoorAmF
set_option autoImplicit false
set_option linter.unusedVariables false
set_option linter.unusedSimpArgs false
noncomputable section
namespace Go.Am
open Go

def beqO : Option Nat → Option Nat → Bool
  | none, none => true
  | some a, some b => a == b
  | _, _ => false
theorem beqO_sound {a b : Option Nat} (h : beqO a b = true) : a = b := by
  cases a <;> cases b <;> simp [beqO] at h ⊢; exact h
mutual
def beqA : AV → AV → Bool
  | .bool a, .bool b => a == b
  | .int k a, .int k' b => decide (k = k') && decide (a = b)
  | .str a, .str b => decide (a = b)
  | .nilptr, .nilptr => true
  | .ptr a o, .ptr b p => a == b && o == p
  | .iptr a, .iptr b => beqAs a b
  | .slice a o l c e, .slice a' o' l' c' e' => a == a' && o == o' && l == l' && beqO c c' && e == e'
  | .vec n l c cs, .vec n' l' c' cs' => n == n' && l == l' && beqO c c' && beqAs cs cs'
  | .nilmap, .nilmap => true
  | .map a, .map b => a == b
  | .func f a b, .func f' a' b' => decide (f = f') && beqAs a a' && beqAs b b'
  | .nilFunc, .nilFunc => true
  | .iface t v, .iface t' v' => t == t' && beqA v v'
  | .nilIface, .nilIface => true
  | .agg a, .agg b => beqAs a b
  | .tuple a, .tuple b => beqAs a b
  | _, _ => false
def beqAs : List AV → List AV → Bool
  | [], [] => true
  | a :: l, b :: m => beqA a b && beqAs l m
  | _, _ => false
end
mutual
theorem beqA_sound : ∀ (a b : AV), beqA a b = true → a = b
  | .bool _, b, h => by cases b <;> simp [beqA] at h; rw [h]
  | .int _ _, b, h => by cases b <;> simp [beqA] at h; rw [h.1, h.2]
  | .str _, b, h => by cases b <;> simp [beqA] at h; rw [h]
  | .nilptr, b, h => by cases b <;> simp [beqA] at h; rfl
  | .ptr _ _, b, h => by cases b <;> simp [beqA] at h; rw [h.1, h.2]
  | .iptr a, b, h => by cases b <;> simp [beqA] at h; rw [beqAs_sound a _ h]
  | .slice _ _ _ _ _, b, h => by cases b <;> simp [beqA] at h; rw [h.1.1.1.1, h.1.1.1.2, h.1.1.2, beqO_sound h.1.2, h.2]
  | .vec _ _ _ a, b, h => by cases b <;> simp [beqA] at h; rw [h.1.1.1, h.1.1.2, beqO_sound h.1.2, beqAs_sound a _ h.2]
  | .nilmap, b, h => by cases b <;> simp [beqA] at h; rfl
  | .map _, b, h => by cases b <;> simp [beqA] at h; rw [h]
  | .func _ a c, b, h => by cases b <;> simp [beqA] at h; rw [h.1.1, beqAs_sound a _ h.1.2, beqAs_sound c _ h.2]
  | .nilFunc, b, h => by cases b <;> simp [beqA] at h; rfl
  | .iface _ v, b, h => by cases b <;> simp [beqA] at h; rw [h.1, beqA_sound v _ h.2]
  | .nilIface, b, h => by cases b <;> simp [beqA] at h; rfl
  | .agg a, b, h => by cases b <;> simp [beqA] at h; rw [beqAs_sound a _ h]
  | .tuple a, b, h => by cases b <;> simp [beqA] at h; rw [beqAs_sound a _ h]
theorem beqAs_sound : ∀ (a b : List AV), beqAs a b = true → a = b
  | [], b, h => by cases b <;> simp [beqAs] at h; rfl
  | a :: l, b, h => by cases b <;> simp [beqAs] at h; rw [beqA_sound a _ h.1, beqAs_sound l _ h.2]
end

structure Ev where
  C : Cx
  F : Nat → Option (Func × List (Nat × List Nat))
  /-- functions whose arguments are frozen ahead of the look into the table of known results -/
  W : Nat → Bool
structure Ev.Ok (E : Ev) : Prop where
  ok : E.C.Ok
  plain : E.C.Plain
  fn : ∀ f x, E.F f = some x → E.C.P.funcs[f]? = some x.1 ∧ (x.1.name == "runtime.NumGoroutine") = false ∧ ∀ c, x.1.body = some c → regionsOkB x.2 c = true

abbrev CallF := FuncId → List AV → AH → Option (AV × AH)

def isCallV (op : Op) : Bool := match op with | .call { callee := .value _, .. } => true | _ => false
def evOp (cf : CallF) (C : Cx) (A : AH) (ρ : Operand → Option AV) (o : Oper) : Option (AV × AH) :=
  if isCallV o.op then (callA ρ o.op).bind fun x => cf x.1 x.2 A else
  match pureOp C ρ o.op with
  | some v => some (v, A)
  | none => match readOp C ρ o.op with
    | some r => (r.val A).map fun v => (v, A)
    | none => match newOp C ρ o.op with
      | some x => some (x.2 A.next, A.alloc x.1)
      | none => effOp C ρ o.op A
def evEff (cf : CallF) (C : Cx) (A : AH) (ρ : Operand → Option AV) (o : Oper) : Option (AV × AH) :=
  if isCallV o.op then (callA ρ o.op).bind fun x => cf x.1 x.2 A else effOp C ρ o.op A

def evSeq (cf : CallF) (C : Cx) (ops : Array Oper) : List Oper → Fr → AH → Option (Fr × AH)
  | [], fr, A => some (fr, A)
  | o :: rest, fr, A => if fr.fits o.dst then match wantedA ops fr o with
    | some true => match evOp cf C A (evalO C fr) o with
      | some x => evSeq cf C ops rest (fr.put o.dst x.1) x.2
      | none => none
    | some false => evSeq cf C ops rest (fr.put o.dst (.tuple [])) A
    | none => none
    else none

end Go.Am

namespace Go.Am
open Go

/-! ## single operations in a form that suits the kernel -/
inductive KI where
  | mv (x : Operand)
  | bi (op : BinOp) (x y : Operand)
  | nc (x : Operand)
  | fa (x : Operand) (off : Nat)
  | ia (x i : Operand) (es : Nat)
  | ld (x : Operand) (agg : Bool) (sz : Nat)
  | st (a x : Operand) (sz : Nat)
  | ln (x : Operand)
  | ex (t : Operand) (i : Nat)
  | call (f : Operand) (args : List Operand)
  | gen


def kiFa (C : Cx) (s : TypeId) (x : Operand) (i : Nat) : KI :=
  match C.T s with
  | some ti => match ti.desc with
    | .struct fs => match fs[i]? with
      | some f => match C.T f.type with
        | some fi => if fi.size = 0 then .gen else forceN f.offset fun n => .fa x n
        | none => .gen
      | none => .gen
    | _ => .gen
  | none => .gen
def kiIa (C : Cx) (t : TypeId) (x i : Operand) : KI :=
  match C.T t with
  | some ti => match ti.desc with
    | .slice e => match C.T e with
      | some ei => forceN ei.size fun n => .ia x i n
      | none => .gen
    | _ => .gen
  | none => .gen
def kiLd (C : Cx) (t : TypeId) (x : Operand) : KI :=
  match C.T t with
  | some ti => if ti.isAgg then forceN ti.size fun n => .ld x true n else .ld x false 0
  | none => .gen
def kiSt (C : Cx) (t : TypeId) (a x : Operand) : KI :=
  match C.T t with
  | some ti => forceN ti.size fun n => .st a x n
  | none => .gen
def kiLn (C : Cx) (ts : Array TypeId) (x : Operand) : KI :=
  match ts[0]? with
  | some t => match C.T t with
    | some ti => match ti.desc with
      | .slice _ => .ln x
      | _ => .gen
    | none => .gen
  | none => .gen
def kI (C : Cx) (o : Oper) : KI :=
  match o.op with
  | .move x => .mv x
  | .assign x => .mv x
  | .binOp op _ x y _ => .bi op x y
  | .nilCheck x => .nc x
  | .fieldAddr s x i => kiFa C s x i
  | .indexAddr t x i => kiIa C t x i
  | .load t x => kiLd C t x
  | .store t a x => kiSt C t a x
  | .extract t i => .ex t i
  | .call c => match c.callee with
    | .value f => .call f c.args.toList
    | .builtin b => match b with
      | .len => match c.args.toList with
        | [x] => kiLn C c.argTypes x
        | _ => .gen
      | _ => .gen
    | _ => .gen
  | _ => .gen

def andThen {α β : Type} (x : Option α) (f : α → Option β) : Option β := match x with | some a => f a | none => none

def kInt (op : BinOp) (k : IntKind) (a b : Int) : Option AV :=
  match op with
  | .add => match a with
    | .ofNat x => match b with
      | .ofNat y => match Nat.ble (Nat.add x y) 127 with
        | true => forceN (Nat.add x y) fun n => some (.int k (.ofNat n))
        | false => aInt .add k a b
      | _ => aInt .add k a b
    | _ => aInt .add k a b
  | .lss => match a with
    | .ofNat x => match b with
      | .ofNat y => some (.bool (Nat.blt x y))
      | _ => aInt .lss k a b
    | _ => aInt .lss k a b
  | .geq => match a with
    | .ofNat x => match b with
      | .ofNat y => some (.bool (Nat.ble y x))
      | _ => aInt .geq k a b
    | _ => aInt .geq k a b
  | .eql => match a with
    | .ofNat x => match b with
      | .ofNat y => some (.bool (Nat.beq x y))
      | _ => aInt .eql k a b
    | _ => aInt .eql k a b
  | op => aInt op k a b

def kIdx (k : IntKind) : Nat := match k with | .i8 => 0 | .i16 => 1 | .i32 => 2 | .i64 => 3 | .u8 => 4 | .u16 => 5 | .u32 => 6 | .u64 => 7
theorem kIdx_inj {k k' : IntKind} (h : Nat.beq (kIdx k) (kIdx k') = true) : k = k' := by
  cases k <;> cases k' <;> first | rfl | (exact absurd h (by decide))
def isSh (op : BinOp) : Bool := match op with | .shl => true | .shr => true | _ => false

abbrev KR := Option (AV × AH)
def kWith (g : KR) (A : AH) (x : Option AV) : KR := match x with | some v => some (v, A) | none => g
def kBi3 (g : KR) (A : AH) (op : BinOp) (k : IntKind) (a : Int) (v : AV) : KR := match v with
  | .int k' b => match isSh op with
    | true => g
    | false => match Nat.beq (kIdx k) (kIdx k') with
      | true => kWith g A (kInt op k a b)
      | false => g
  | _ => g
def kBi2 (g : KR) (A : AH) (op : BinOp) (k : IntKind) (a : Int) (y : Option AV) : KR := match y with
  | some v => kBi3 g A op k a v
  | none => g
def kBi1 (g : KR) (A : AH) (op : BinOp) (v : AV) (y : Option AV) : KR := match v with
  | .int k a => kBi2 g A op k a y
  | _ => g
def kBi (g : KR) (A : AH) (op : BinOp) (x y : Option AV) : KR := match x with
  | some v => kBi1 g A op v y
  | none => g
def kNc1 (g : KR) (A : AH) (v : AV) : KR := match v with
  | .ptr b o => some (.ptr b o, A)
  | .iptr cs => some (.iptr cs, A)
  | _ => g
def kNc (g : KR) (A : AH) (x : Option AV) : KR := match x with | some v => kNc1 g A v | none => g
def kFa1 (g : KR) (A : AH) (off : Nat) (v : AV) : KR := match v with
  | .ptr b o => forceN (Nat.add o off) fun n => some (.ptr b n, A)
  | .iptr cs => some (.iptr (cs.drop off), A)
  | _ => g
def kFa (g : KR) (A : AH) (off : Nat) (x : Option AV) : KR := match x with | some v => kFa1 g A off v | none => g
def kIa3 (g : KR) (A : AH) (es : Nat) (v : AV) (i : Nat) : KR := match v with
  | .slice b o len _ _ => match Nat.blt i len with
    | true => forceN (Nat.add o (Nat.mul i es)) fun n => some (.ptr b n, A)
    | false => g
  | .vec _ len _ cs => match Nat.blt i len with
    | true => some (.iptr (cs.drop (Nat.mul i es)), A)
    | false => g
  | _ => g
def kIa2 (g : KR) (A : AH) (es : Nat) (v : AV) (i : AV) : KR := match i with
  | .int _ n => match n with
    | .ofNat n => kIa3 g A es v n
    | _ => g
  | _ => g
def kIa1 (g : KR) (A : AH) (es : Nat) (v : AV) (i : Option AV) : KR := match i with | some i => kIa2 g A es v i | none => g
def kIa (g : KR) (A : AH) (es : Nat) (x i : Option AV) : KR := match x with | some v => kIa1 g A es v i | none => g
def kTake (agg : Bool) (sz : Nat) (cs : List AV) : Option AV := match agg with
  | true => match Nat.beq (cs.take sz).length sz with
    | true => some (.agg (cs.take sz))
    | false => none
  | false => match cs with
    | c :: _ => some c
    | [] => none
def kLd2 (g : KR) (A : AH) (agg : Bool) (sz o : Nat) (B : Option ABlk) : KR := match B with
  | some b => match b with
    | .cells cs => kWith g A (kTake agg sz (cs.drop o))
    | _ => g
  | none => g
def kLd1 (g : KR) (A : AH) (agg : Bool) (sz : Nat) (v : AV) : KR := match v with
  | .ptr b o => kLd2 g A agg sz o (A.get b)
  | .iptr cs => kWith g A (kTake agg sz cs)
  | _ => g
def kLd (g : KR) (A : AH) (agg : Bool) (sz : Nat) (x : Option AV) : KR := match x with | some v => kLd1 g A agg sz v | none => g
def kLn1 (g : KR) (A : AH) (v : AV) : KR := match v with
  | .slice _ _ len _ _ => some (.int .i64 (.ofNat len), A)
  | .vec _ len _ _ => some (.int .i64 (.ofNat len), A)
  | _ => g
def kLn (g : KR) (A : AH) (x : Option AV) : KR := match x with | some v => kLn1 g A v | none => g
def kEx1 (g : KR) (A : AH) (i : Nat) (v : AV) : KR := match v with
  | .tuple vs => kWith g A (vs[i]?)
  | _ => g
def kEx (g : KR) (A : AH) (i : Nat) (x : Option AV) : KR := match x with | some v => kEx1 g A i v | none => g
def kCall2 (cf : CallF) (g : KR) (A : AH) (f : FuncId) (first cap : List AV) (ars : Option (List AV)) : KR := match ars with
  | some vs => cf f (first ++ vs ++ cap) A
  | none => g
def kCall1 (cf : CallF) (g : KR) (A : AH) (v : AV) (ars : Option (List AV)) : KR := match v with
  | .func fn first cap => match fn with
    | .func f => kCall2 cf g A f first cap ars
    | _ => g
  | _ => g
def kCall (cf : CallF) (g : KR) (A : AH) (f : Option AV) (ars : Option (List AV)) : KR := match f with | some v => kCall1 cf g A v ars | none => g

def kOp (cf : CallF) (C : Cx) (A : AH) (fr : Fr) (o : Oper) : KR :=
  match kI C o with
  | .mv x => kWith none A (evalO C fr x)
  | .bi op x y => kBi (evOp cf C A (evalO C fr) o) A op (evalO C fr x) (evalO C fr y)
  | .nc x => kNc (evOp cf C A (evalO C fr) o) A (evalO C fr x)
  | .fa x off => kFa (evOp cf C A (evalO C fr) o) A off (evalO C fr x)
  | .ia x i es => kIa (evOp cf C A (evalO C fr) o) A es (evalO C fr x) (evalO C fr i)
  | .ld x agg sz => kLd (evOp cf C A (evalO C fr) o) A agg sz (evalO C fr x)
  | .st _ _ _ => evOp cf C A (evalO C fr) o
  | .ln x => kLn (evOp cf C A (evalO C fr) o) A (evalO C fr x)
  | .ex t i => kEx (evOp cf C A (evalO C fr) o) A i (evalO C fr t)
  | .call f ars => kCall cf (evOp cf C A (evalO C fr) o) A (evalO C fr f) (omap (evalO C fr) ars)
  | .gen => evOp cf C A (evalO C fr) o

def kFit (n : Nat) (d : Option Nat) : Bool := match d with | some d => Nat.blt d n | none => true
def putT (t : Trie AV) (d : Option Nat) (v : AV) : Trie AV := match d with | some d => t.set d (some v) | none => t
noncomputable def kStep (cf : CallF) (C : Cx) (ops : Array Oper) (n : Nat) (o : Oper) (k : Trie AV → AH → Option (Fr × AH)) (t : Trie AV) (A : AH) : Option (Fr × AH) :=
  match kFit n o.dst with
  | true => match o.guard with
    | none => match kOp cf C A ⟨n, t⟩ o with
      | some x => k (putT t o.dst x.1) x.2
      | none => none
    | some _ => match wantedA ops ⟨n, t⟩ o with
      | some b => match b with
        | true => match kOp cf C A ⟨n, t⟩ o with
          | some x => k (putT t o.dst x.1) x.2
          | none => none
        | false => k (putT t o.dst (.tuple [])) A
      | none => none
  | false => none
noncomputable def kSeqT (cf : CallF) (C : Cx) (ops : Array Oper) (n : Nat) (l : List Oper) : Trie AV → AH → Option (Fr × AH) :=
  List.rec (motive := fun _ => Trie AV → AH → Option (Fr × AH)) (fun t A => some (⟨n, t⟩, A)) (fun o _ k => kStep cf C ops n o k) l
noncomputable def kSeq (cf : CallF) (C : Cx) (ops : Array Oper) (l : List Oper) (fr : Fr) (A : AH) : Option (Fr × AH) := forceN fr.n fun n => kSeqT cf C ops n l fr.t A

/-! ## they say what the others say -/
theorem kWith_eq {g : KR} {A : AH} {x : Option AV} {r : AV × AH} (h : kWith g A x = some r) : g = some r ∨ ∃ v, x = some v ∧ r = (v, A) := by
  unfold kWith at h
  split at h
  · cases h; exact .inr ⟨_, rfl, rfl⟩
  · exact .inl h
theorem kInt_eq {op : BinOp} {k : IntKind} {a b : Int} {v : AV} (h : kInt op k a b = some v) : aInt op k a b = some v := by
  unfold kInt at h
  split at h
  · split at h
    · rename_i x
      split at h
      · rename_i y
        split at h
        · rename_i hb
          rw [forceN_eq] at h
          cases h
          have hle : x + y ≤ 127 := Nat.le_of_ble_eq_true hb
          simp only [aInt]
          congr 2
          show k.wrap ((x : Int) + (y : Int)) = ((x + y : Nat) : Int)
          unfold IntKind.wrap
          cases k <;> simp [IntKind.bits, IntKind.signed] <;> omega
        · exact h
      · exact h
    · exact h
  · split at h
    · rename_i x
      split at h
      · rename_i y
        cases h
        simp only [aInt]
        congr 2
        show decide ((x : Int) < (y : Int)) = Nat.blt x y
        rw [Bool.eq_iff_iff]; simp
      · exact h
    · exact h
  · split at h
    · rename_i x
      split at h
      · rename_i y
        cases h
        simp only [aInt]
        congr 2
        show decide ((x : Int) ≥ (y : Int)) = Nat.ble y x
        rw [Bool.eq_iff_iff]; simp
      · exact h
    · exact h
  · split at h
    · rename_i x
      split at h
      · rename_i y
        cases h
        simp only [aInt]
        congr 2
        show ((x : Int) == (y : Int)) = Nat.beq x y
        rw [Bool.eq_iff_iff]; simp; omega
      · exact h
    · exact h
  · exact h

theorem kBi_eq {g : KR} {A : AH} {op : BinOp} {x y : Option AV} {r : AV × AH} (h : kBi g A op x y = some r) :
    g = some r ∨ ∃ k a b v, x = some (.int k a) ∧ y = some (.int k b) ∧ isSh op = false ∧ aInt op k a b = some v ∧ r = (v, A) := by
  unfold kBi at h
  split at h
  · unfold kBi1 at h
    split at h
    · unfold kBi2 at h
      split at h
      · unfold kBi3 at h
        split at h
        · split at h
          · exact .inl h
          · rename_i hs
            split at h
            · rename_i hk
              rcases kWith_eq h with h | ⟨v, hv, rfl⟩
              · exact .inl h
              · exact .inr ⟨_, _, _, v, rfl, by rw [kIdx_inj hk], hs, kInt_eq hv, rfl⟩
            · exact .inl h
        · exact .inl h
      · exact .inl h
    · exact .inl h
  · exact .inl h
theorem kNc_eq {g : KR} {A : AH} {x : Option AV} {r : AV × AH} (h : kNc g A x = some r) : g = some r ∨ ∃ v, x = some v ∧ ((∃ b o, v = .ptr b o) ∨ ∃ cs, v = .iptr cs) ∧ r = (v, A) := by
  unfold kNc at h
  split at h
  · unfold kNc1 at h
    split at h
    · cases h; exact .inr ⟨_, rfl, .inl ⟨_, _, rfl⟩, rfl⟩
    · cases h; exact .inr ⟨_, rfl, .inr ⟨_, rfl⟩, rfl⟩
    · exact .inl h
  · exact .inl h
def faV (off : Nat) : AV → Option AV
  | .ptr b o => some (.ptr b (o + off))
  | .iptr cs => some (.iptr (cs.drop off))
  | _ => none
theorem kFa_eq {g : KR} {A : AH} {off : Nat} {x : Option AV} {r : AV × AH} (h : kFa g A off x = some r) : g = some r ∨ ∃ v u, x = some v ∧ faV off v = some u ∧ r = (u, A) := by
  unfold kFa at h
  split at h
  · unfold kFa1 at h
    split at h
    · rw [forceN_eq] at h; cases h; exact .inr ⟨_, _, rfl, rfl, rfl⟩
    · cases h; exact .inr ⟨_, _, rfl, rfl, rfl⟩
    · exact .inl h
  · exact .inl h
def iaV (es : Nat) (i : Nat) : AV → Option AV
  | .slice b o len _ _ => if i < len then some (.ptr b (o + i * es)) else none
  | .vec _ len _ cs => if i < len then some (.iptr (cs.drop (i * es))) else none
  | _ => none
theorem kIa_eq {g : KR} {A : AH} {es : Nat} {x i : Option AV} {r : AV × AH} (h : kIa g A es x i = some r) :
    g = some r ∨ ∃ v k n u, x = some v ∧ i = some (.int k (.ofNat n)) ∧ iaV es n v = some u ∧ r = (u, A) := by
  unfold kIa at h
  split at h
  · unfold kIa1 at h
    split at h
    · unfold kIa2 at h
      split at h
      · split at h
        · unfold kIa3 at h
          split at h
          · split at h
            · rename_i hb
              rw [forceN_eq] at h; cases h
              exact .inr ⟨_, _, _, _, rfl, rfl, by simp only [iaV]; rw [if_pos (by simpa using hb)]; rfl, rfl⟩
            · exact .inl h
          · split at h
            · rename_i hb
              cases h
              exact .inr ⟨_, _, _, _, rfl, rfl, by simp only [iaV]; rw [if_pos (by simpa using hb)]; rfl, rfl⟩
            · exact .inl h
          · exact .inl h
        · exact .inl h
      · exact .inl h
    · exact .inl h
  · exact .inl h
def takeV (agg : Bool) (sz : Nat) (cs : List AV) (off : Nat) : Option AV :=
  if agg then (if ((cs.drop off).take sz).length = sz then some (.agg ((cs.drop off).take sz)) else none) else cs[off]?
theorem kTake_eq {agg : Bool} {sz : Nat} {cs : List AV} {off : Nat} {v : AV} (h : kTake agg sz (cs.drop off) = some v) : takeV agg sz cs off = some v := by
  unfold kTake at h
  unfold takeV
  split at h
  · split at h
    · rename_i hb
      rw [if_pos rfl, if_pos (Nat.eq_of_beq_eq_true hb)]; exact h
    · cases h
  · rw [if_neg (by simp)]
    split at h
    · rename_i c l e
      cases h
      have := congrArg (·[0]?) e
      simpa [List.getElem?_drop] using this
    · cases h
theorem kLd_eq {g : KR} {A : AH} {agg : Bool} {sz : Nat} {x : Option AV} {r : AV × AH} (h : kLd g A agg sz x = some r) :
    g = some r ∨ (∃ cs v, x = some (.iptr cs) ∧ takeV agg sz cs 0 = some v ∧ r = (v, A)) ∨ ∃ b o cs v, x = some (.ptr b o) ∧ A.get b = some (.cells cs) ∧ takeV agg sz cs o = some v ∧ r = (v, A) := by
  unfold kLd at h
  split at h
  · unfold kLd1 at h
    split at h
    · unfold kLd2 at h
      split at h
      · rename_i B hB
        split at h
        · rcases kWith_eq h with h | ⟨v, hv, rfl⟩
          · exact .inl h
          · exact .inr (.inr ⟨_, _, _, v, rfl, hB, kTake_eq hv, rfl⟩)
        · exact .inl h
      · exact .inl h
    · rcases kWith_eq h with h | ⟨v, hv, rfl⟩
      · exact .inl h
      · exact .inr (.inl ⟨_, v, rfl, kTake_eq (off := 0) (by simpa using hv), rfl⟩)
    · exact .inl h
  · exact .inl h
theorem kLn_eq {g : KR} {A : AH} {x : Option AV} {r : AV × AH} (h : kLn g A x = some r) :
    g = some r ∨ ∃ v len, x = some v ∧ ((∃ b o c es, v = .slice b o len c es) ∨ ∃ nl c cs, v = .vec nl len c cs) ∧ r = (.int .i64 (.ofNat len), A) := by
  unfold kLn at h
  split at h
  · unfold kLn1 at h
    split at h
    · cases h; exact .inr ⟨_, _, rfl, .inl ⟨_, _, _, _, rfl⟩, rfl⟩
    · cases h; exact .inr ⟨_, _, rfl, .inr ⟨_, _, _, rfl⟩, rfl⟩
    · exact .inl h
  · exact .inl h
theorem kEx_eq {g : KR} {A : AH} {i : Nat} {x : Option AV} {r : AV × AH} (h : kEx g A i x = some r) : g = some r ∨ ∃ vs v, x = some (.tuple vs) ∧ vs[i]? = some v ∧ r = (v, A) := by
  unfold kEx at h
  split at h
  · unfold kEx1 at h
    split at h
    · rcases kWith_eq h with h | ⟨v, hv, rfl⟩
      · exact .inl h
      · exact .inr ⟨_, v, rfl, hv, rfl⟩
    · exact .inl h
  · exact .inl h
theorem kCall_eq {cf : CallF} {g : KR} {A : AH} {f : Option AV} {ars : Option (List AV)} {r : AV × AH} (h : kCall cf g A f ars = some r) :
    g = some r ∨ ∃ fn first cap vs, f = some (.func (.func fn) first cap) ∧ ars = some vs ∧ cf fn (first ++ vs ++ cap) A = some r := by
  unfold kCall at h
  split at h
  · unfold kCall1 at h
    split at h
    · split at h
      · unfold kCall2 at h
        split at h
        · exact .inr ⟨_, _, _, _, rfl, rfl, h⟩
        · exact .inl h
      · exact .inl h
    · exact .inl h
  · exact .inl h
end Go.Am

namespace Go.Am
open Go

section
variable {C : Cx} {o : Oper}
def KIok (C : Cx) (op : Op) : KI → Prop
  | .mv x => op = .move x ∨ op = .assign x
  | .bi b x y => ∃ t yt, op = .binOp b t x y yt
  | .nc x => op = .nilCheck x
  | .fa x off => ∃ s i, op = .fieldAddr s x i ∧ ∀ v u, faV off v = some u → aFieldAddr C s v i = some u
  | .ia x i es => ∃ t, op = .indexAddr t x i ∧ ∀ v k n u, iaV es n v = some u → aIndexAddr C t v (.int k (.ofNat n)) = some u
  | .ld x agg sz => ∃ t, op = .load t x ∧ ∀ cs off v, takeV agg sz cs off = some v → partA C t cs off = some v
  | .st .. => True
  | .ln x => ∃ (c : Call) (t : TypeId) (ti : TyI) (e : TypeId), op = .call c ∧ c.callee = .builtin .len ∧ c.args.toList = [x] ∧ c.argTypes[0]? = some t ∧ C.T t = some ti ∧ ti.desc = .slice e
  | .ex t i => op = .extract t i
  | .call f ars => ∃ c : Call, op = .call c ∧ c.callee = .value f ∧ c.args.toList = ars
  | .gen => True
theorem kI_ok : KIok C o.op (kI C o) := by
  unfold kI
  split
  · rename_i e; exact .inl e
  · rename_i e; exact .inr e
  · rename_i e; exact ⟨_, _, e⟩
  · rename_i e; exact e
  · rename_i s x i e
    unfold kiFa
    split
    · rename_i ti hti
      split
      · rename_i fs hd
        split
        · rename_i f hf
          split
          · rename_i fi hfi
            split
            · trivial
            · rename_i hz
              rw [forceN_eq]
              refine ⟨s, i, e, fun v u hv => ?_⟩
              simp only [aFieldAddr, hti, Option.bind_some, hd, hf, hfi, if_neg hz]
              cases v <;> simp only [faV] at hv <;> first | exact hv | cases hv
          · trivial
        · trivial
      · trivial
    · trivial
  · rename_i t x i e
    unfold kiIa
    split
    · rename_i ti hti
      split
      · rename_i el hd
        split
        · rename_i ei hei
          rw [forceN_eq]
          refine ⟨t, e, fun v k n u hv => ?_⟩
          simp only [aIndexAddr, hti, Option.bind_some, hd]
          cases v
          case slice =>
            simp only [iaV] at hv
            split at hv
            · rename_i hlt
              simp only [hei, Option.bind_some]
              rw [if_pos ⟨by simp, by simpa using hlt⟩]
              exact hv
            · cases hv
          case vec =>
            simp only [iaV] at hv
            split at hv
            · rename_i hlt
              simp only [hei, Option.bind_some]
              rw [if_pos ⟨by simp, by simpa using hlt⟩]
              exact hv
            · cases hv
          all_goals cases hv
        · trivial
      · trivial
    · trivial
  · rename_i t x e
    unfold kiLd
    split
    · rename_i ti hti
      split
      · rename_i ha
        rw [forceN_eq]
        refine ⟨t, e, fun cs off v hv => ?_⟩
        simp only [partA, hti, Option.bind_some, ha, if_true]
        simpa [takeV] using hv
      · rename_i ha
        refine ⟨t, e, fun cs off v hv => ?_⟩
        simp only [partA, hti, Option.bind_some]
        rw [if_neg ha]
        simpa [takeV] using hv
    · trivial
  · rename_i t a x e
    unfold kiSt
    split
    · rw [forceN_eq]; trivial
    · trivial
  · rename_i t i e; exact e
  · rename_i c e
    split
    · rename_i f hc; exact ⟨c, e, hc, rfl⟩
    · rename_i b hc
      split
      · split
        · rename_i x hx
          unfold kiLn
          split
          · rename_i t ht
            split
            · rename_i ti hti
              split
              · rename_i el hd
                exact ⟨c, t, ti, el, e, hc, hx, ht, hti, hd⟩
              · trivial
            · trivial
          · trivial
        · trivial
      · trivial
    · trivial
  · trivial

theorem evOp_pure {cf : CallF} {A : AH} {ρ : Operand → Option AV} {v : AV} (hc : isCallV o.op = false) (h : pureOp C ρ o.op = some v) : evOp cf C A ρ o = some (v, A) := by
  unfold evOp
  rw [if_neg (by simp [hc]), h]

theorem kOp_sound {cf : CallF} {A : AH} {fr : Fr} {r : AV × AH} (h : kOp cf C A fr o = some r) : evOp cf C A (evalO C fr) o = some r := by
  have hk := kI_ok (C := C) (o := o)
  unfold kOp at h
  split at h
  · rename_i x e
    rw [e] at hk
    rcases kWith_eq h with h | ⟨v, hv, rfl⟩
    · cases h
    · rcases hk with hk | hk
      · exact evOp_pure (by rw [hk]; rfl) (by rw [hk]; exact hv)
      · exact evOp_pure (by rw [hk]; rfl) (by rw [hk]; exact hv)
  · rename_i op x y e
    rw [e] at hk
    obtain ⟨t, yt, hk⟩ := hk
    rcases kBi_eq h with h | ⟨k, a, b, v, hx, hy, hs, hv, rfl⟩
    · exact h
    · refine evOp_pure (by rw [hk]; rfl) ?_
      rw [hk]
      simp only [pureOp, hx, hy, Option.bind_some, aBin]
      rw [if_neg (by cases op <;> simp_all [isSh])]
      simpa using hv
  · rename_i x e
    rw [e] at hk
    rcases kNc_eq h with h | ⟨v, hx, hv, rfl⟩
    · exact h
    · refine evOp_pure (by rw [hk]; rfl) ?_
      rw [hk]
      simp only [pureOp, hx, Option.bind_some]
      rcases hv with ⟨b, o', rfl⟩ | ⟨cs, rfl⟩ <;> rfl
  · rename_i x off e
    rw [e] at hk
    obtain ⟨s, i, hk, hf⟩ := hk
    rcases kFa_eq h with h | ⟨v, u, hx, hv, rfl⟩
    · exact h
    · refine evOp_pure (by rw [hk]; rfl) ?_
      rw [hk]
      simp only [pureOp, hx, Option.bind_some]
      exact hf v u hv
  · rename_i x i es e
    rw [e] at hk
    obtain ⟨t, hk, hf⟩ := hk
    rcases kIa_eq h with h | ⟨v, k, n, u, hx, hi, hv, rfl⟩
    · exact h
    · refine evOp_pure (by rw [hk]; rfl) ?_
      rw [hk]
      simp only [pureOp, hx, hi, Option.bind_some]
      exact hf v k n u hv
  · rename_i x agg sz e
    rw [e] at hk
    obtain ⟨t, hk, hf⟩ := hk
    rcases kLd_eq h with h | ⟨cs, v, hx, hv, rfl⟩ | ⟨b, o', cs, v, hx, hg, hv, rfl⟩
    · exact h
    · unfold evOp
      rw [hk]
      simp only [isCallV, pureOp, readOp, hx, Option.bind_some, hf _ _ _ hv, Option.map_some, RRes.val, Bool.false_eq_true, if_false]
    · unfold evOp
      rw [hk]
      simp only [isCallV, pureOp, readOp, hx, Option.bind_some, RRes.val, hg, hf _ _ _ hv, Option.map_some, Bool.false_eq_true, if_false]
  · exact h
  · rename_i x e
    rw [e] at hk
    obtain ⟨c, t, ti, el, hk, hb, ha, ht, hti, hd⟩ := hk
    rcases kLn_eq h with h | ⟨v, len, hx, hv, rfl⟩
    · exact h
    · obtain ⟨cal, args, tys⟩ := c
      simp only at hb ha ht
      subst hb
      refine evOp_pure (by rw [hk]; rfl) ?_
      rw [hk]
      simp only [pureOp, ha, omap, hx, Option.bind_some, aBuiltin, ht, hti, hd]
      rcases hv with ⟨b, o', c, es, rfl⟩ | ⟨nl, c, cs, rfl⟩ <;> rfl
  · rename_i t i e
    rw [e] at hk
    rcases kEx_eq h with h | ⟨vs, v, hx, hv, rfl⟩
    · exact h
    · have hk' : o.op = .extract t i := hk
      refine evOp_pure (by rw [hk']; rfl) ?_
      rw [hk']
      simp only [pureOp, hx, Option.bind_some]
      exact hv
  · rename_i f ars e
    rw [e] at hk
    obtain ⟨c, hk, hb, ha⟩ := hk
    rcases kCall_eq h with h | ⟨fn, first, cap, vs, hf, has, hcf⟩
    · exact h
    · obtain ⟨cal, args, tys⟩ := c
      simp only at hb ha
      subst hb
      unfold evOp
      rw [hk, if_pos (show isCallV _ = true from rfl)]
      simp only [callA, hf, Option.bind_some, ha, has]
      exact hcf
  · exact h

theorem kFit_eq {fr : Fr} {d : Option Nat} (h : kFit fr.n d = true) : fr.fits d = true := by
  cases d with
  | none => rfl
  | some d => simpa [kFit, Fr.fits] using h
theorem putT_eq (n : Nat) (t : Trie AV) (d : Option Nat) (v : AV) : (⟨n, putT t d v⟩ : Fr) = (⟨n, t⟩ : Fr).put d v := by cases d <;> rfl
theorem kSeqT_sound {cf : CallF} {ops : Array Oper} {n : Nat} : ∀ {l : List Oper} {t : Trie AV} {A : AH} {r : Fr × AH}, kSeqT cf C ops n l t A = some r → evSeq cf C ops l ⟨n, t⟩ A = some r
  | [], t, A, r, h => h
  | o :: rest, t, A, r, h => by
    have h' : kStep cf C ops n o (kSeqT cf C ops n rest) t A = some r := h
    unfold kStep at h'
    simp only [evSeq]
    split at h'
    · rename_i hf
      rw [if_pos (kFit_eq (fr := ⟨n, t⟩) hf)]
      split at h'
      · rename_i hg
        have hw : wantedA ops ⟨n, t⟩ o = some true := by unfold wantedA; rw [hg]
        rw [hw]
        split at h'
        · rename_i x hx
          simp only [kOp_sound hx]
          rw [← putT_eq]
          exact kSeqT_sound h'
        · cases h'
      · split at h'
        · rename_i b hw
          rw [hw]
          split at h'
          · split at h'
            · rename_i x hx
              simp only [kOp_sound hx]
              rw [← putT_eq]
              exact kSeqT_sound h'
            · cases h'
          · simp only
            rw [← putT_eq]
            exact kSeqT_sound h'
        · cases h'
    · cases h'
theorem kSeq_sound {cf : CallF} {ops : Array Oper} {l : List Oper} {fr : Fr} {A : AH} {r : Fr × AH} (h : kSeq cf C ops l fr A = some r) : evSeq cf C ops l fr A = some r := by
  unfold kSeq at h
  rw [forceN_eq] at h
  exact kSeqT_sound h
end
end Go.Am

namespace Go.Am
open Go

def quietB (fr : Fr) (ts : List Nat) (hin hout : List (Nat × Nat × ABlk)) : Bool :=
  hout.all fun h => (ts.all fun t => match fr.get t with | some v => !ment h.2.1 v | none => true) && hin.all fun h' => !mentB h.2.1 h'.2.2
def watchB (A : AH) (l : List (Nat × Nat × (ABlk → Option AV) × AV)) : Bool :=
  l.all fun x => match (A.get x.2.1).bind x.2.2.1 with | some u => beqA u x.2.2.2 | none => false
def unbornB (A : AH) (l : List (Nat × Nat × ABlk)) : Bool := l.all fun h => (A.st h.2.1).isNone && decide (h.2.1 < A.next)

def evCan (cf : CallF) (C : Cx) (ops : Array Oper) (ms : List Nat) : List Nat → CS → Option (Fr × AH)
  | [], s => some (s.fr, promo s.hid s.A)
  | i :: rest, s => match ops[i]? with
    | none => none
    | some o => if s.fr.fits o.dst then match wantedA ops s.fr o with
      | none => none
      | some false => evCan cf C ops ms rest { s with fr := s.fr.put o.dst (.tuple []) }
      | some true =>
        if isE o then
          if quietB s.fr (opTmps o) (s.hid.filter (hidIn (ms.getD i 0))) (s.hid.filter fun h => !hidIn (ms.getD i 0) h) then
            match evEff cf C (promo (s.hid.filter (hidIn (ms.getD i 0))) s.A) (evalR C s.fr (opTmps o)) o with
            | some x => if watchB x.2 (s.watch.filter fun x => !watIn (ms.getD i 0) x) && unbornB x.2 (s.hid.filter fun h => !hidIn (ms.getD i 0) h) then
                evCan cf C ops ms rest ⟨s.fr.put o.dst x.1, x.2, s.hid.filter (fun h => !hidIn (ms.getD i 0) h), s.watch.filter (fun x => !watIn (ms.getD i 0) x)⟩
              else none
            | none => none
          else none
        else match pureOp C (evalR C s.fr (opTmps o)) o.op with
          | some v => evCan cf C ops ms rest { s with fr := s.fr.put o.dst v }
          | none => match readOp C (evalR C s.fr (opTmps o)) o.op with
            | some (.imm v) => evCan cf C ops ms rest { s with fr := s.fr.put o.dst v }
            | some (.at β f) => match (s.A.get β).bind f with
              | some v => evCan cf C ops ms rest { s with fr := s.fr.put o.dst v, watch := (i, β, f, v) :: s.watch }
              | none => none
            | none => match newOp C (evalR C s.fr (opTmps o)) o.op with
              | some x => evCan cf C ops ms rest ⟨s.fr.put o.dst (x.2 s.A.next), s.A.reserve, (i, s.A.next, x.1) :: s.hid, s.watch⟩
              | none => none
      else none

def wantedO (ops : Array Oper) (fr : Fr) (o : Oper) : Bool := o.dst.isNone && match wantedA ops fr o with | some true => true | _ => false
theorem wantedO_sound {ops : Array Oper} {fr : Fr} {o : Oper} (h : wantedO ops fr o = true) : wantedA ops fr o = some true ∧ o.dst = none := by
  unfold wantedO at h
  rw [Bool.and_eq_true] at h
  refine ⟨?_, by simpa using h.1⟩
  have h2 := h.2
  split at h2
  · rename_i e; exact e
  · cases h2

/-! ## the evaluator, by levels; M: results that are known -/
abbrev Ords := List (Nat × List Nat)
abbrev CodeR := Option (Go.Exit × Fr × AH)
structure Lvl where
  code : Ords → Code → Fr → AH → CodeR
  scope : Ords → Code → Code → Fr → AH → CodeR
  call : FuncId → List AV → AH → Option (AV × AH)
  last : FuncId → List AV → AH → Func → Fr → Option (AV × AH)
def lvl0 : Lvl := ⟨fun _ _ _ _ => none, fun _ _ _ _ _ => none, fun _ _ _ => none, fun _ _ _ _ _ => none⟩
noncomputable def sRegion (E : Ev) (L : Lvl) (ords : Ords) (id : Nat) (ops : Array Oper) (draw : Bool) (fr : Fr) (A : AH) : Option (Fr × AH) :=
  match draw with
  | true => evCan L.call E.C ops (msOf ops) (ordOf ords id ops.size) ⟨fr, A, [], []⟩
  | false => kSeq L.call E.C ops ops.toList fr A
def sNormal (x : Option (Fr × AH)) : CodeR := match x with | some x => some (.normal, x.1, x.2) | none => none
def sSeq (L : Lvl) (ords : Ords) (y : Code) (r : CodeR) : CodeR := match r with
  | some (.normal, fr', A') => L.code ords y fr' A'
  | r => r
def sCond (L : Lvl) (ords : Ords) (b : Option AV) (x y : Code) (fr : Fr) (A : AH) : CodeR := match b with
  | some (.bool true) => L.code ords x fr A
  | some (.bool false) => L.code ords y fr A
  | _ => none
def sBlock (id : Nat) (r : CodeR) : CodeR := match r with
  | some (.exit id', fr', A') => if id' = id then some (.normal, fr', A') else some (.exit id', fr', A')
  | r => r
def sLoop (L : Lvl) (ords : Ords) (x : Code) (r : CodeR) : CodeR := match r with
  | some (.normal, fr', A') => L.code ords (.loop x) fr' A'
  | r => r
noncomputable def codeS (E : Ev) (L : Lvl) (ords : Ords) (c : Code) (fr : Fr) (A : AH) : CodeR := match c with
  | .skip => some (.normal, fr, A)
  | .label _ => some (.normal, fr, A)
  | .ret => some (.ret, fr, A)
  | .exit id => some (.exit id, fr, A)
  | .region id ops draw => sNormal (sRegion E L ords id ops draw fr A)
  | .seq x y => sSeq L ords y (L.code ords x fr A)
  | .cond b x y => sCond L ords (evalO E.C fr b) x y fr A
  | .block id x => sBlock id (L.code ords x fr A)
  | .loop x => sLoop L ords x (L.code ords x fr A)
  | .goto l => some (.goto l, fr, A)
  | .scope x => L.scope ords x x fr A
  | _ => none
def scopeS (L : Lvl) (ords : Ords) (x c : Code) (fr : Fr) (A : AH) : CodeR := match L.code ords c fr A with
  | some (.goto l, fr', A') => match findLabel x l with
    | some rest => L.scope ords x rest fr' A'
    | none => none
  | r => r
def sRet (C : Cx) (fn : Func) (r : CodeR) : Option (AV × AH) := match r with
  | some (.normal, fr, A') => (retA C fn.results.toList fr A').map fun r => (r, A')
  | some (.ret, fr, A') => (retA C fn.results.toList fr A').map fun r => (r, A')
  | _ => none
def sLeave (L : Lvl) (z : FuncId × List AV) (fn : Func) (r : CodeR) : Option (AV × AH) := match r with
  | some (.normal, fr₃, A₃) => L.last z.1 z.2 A₃ fn fr₃
  | some (.ret, fr₃, A₃) => L.last z.1 z.2 A₃ fn fr₃
  | _ => none
def sDefer3 (E : Ev) (L : Lvl) (x : Func × Ords) (o : Oper) (rest : Code) (fr₂ : Fr) (A₂ : AH) : Option (AV × AH) := match deferA (evalO E.C fr₂) o.op with
  | some z => sLeave L z x.1 (L.code x.2 rest fr₂ A₂)
  | none => none
def sDefer2 (E : Ev) (L : Lvl) (x : Func × Ords) (ops : Array Oper) (o : Oper) (rest : Code) (r : Option (Fr × AH)) : Option (AV × AH) := match r with
  | some (fr₂, A₂) => if wantedO ops fr₂ o then sDefer3 E L x o rest fr₂ A₂ else none
  | none => none
def sDefer (E : Ev) (L : Lvl) (x : Func × Ords) (y : Code × Array Oper × List Oper × Oper × Code) (r : CodeR) : Option (AV × AH) := match r with
  | some (.normal, fr₁, A₁) => sDefer2 E L x y.2.1 y.2.2.2.1 y.2.2.2.2 (evSeq L.call E.C y.2.1 y.2.2.1 fr₁ A₁)
  | _ => none
def sBody (E : Ev) (L : Lvl) (x : Func × Ords) (c : Code) (args : List AV) (A : AH) : Option (AV × AH) := match dfSplit c with
  | some y => sDefer E L x y (L.code x.2 y.1 (Fr.enter x.1.ntmps args) A)
  | none => sRet E.C x.1 (L.code x.2 c (Fr.enter x.1.ntmps args) A)
def sEnter (E : Ev) (L : Lvl) (x : Func × Ords) (args : List AV) (A : AH) : Option (AV × AH) := match x.1.body with
  | none => none
  | some c => sBody E L x c args A
/-- a known result: at these arguments, or (where the result has no memory of its own) at the frozen ones -/
def callM (E : Ev) (M : FuncId → List AV → Option AV) (f : FuncId) (args : List AV) (A : AH) : Option AV := match M f args with
  | some r => some r
  | none => match E.W f with
    | true => match omap (freeze 100 A) args with
      | some us => match M f us with
        | some r => match flat r with
          | true => some r
          | false => none
        | none => none
      | none => none
    | false => none
def callS (E : Ev) (M : FuncId → List AV → Option AV) (L : Lvl) (f : FuncId) (args : List AV) (A : AH) : Option (AV × AH) := match callM E M f args A with
  | some r => some (r, A)
  | none => match E.F f with
    | none => none
    | some x => sEnter E L x args A
def lastS (E : Ev) (L : Lvl) (g : FuncId) (us : List AV) (A : AH) (fn : Func) (fr₃ : Fr) : Option (AV × AH) := match E.F g with
  | none => none
  | some x => match x.1.body with
    | none => none
    | some c => match L.code x.2 c (Fr.enter x.1.ntmps us) A with
      | some (.normal, fr, A') => if (retA E.C x.1.results.toList fr A').isSome then (retA E.C fn.results.toList fr₃ A').map fun r => (r, A') else none
      | some (.ret, fr, A') => if (retA E.C x.1.results.toList fr A').isSome then (retA E.C fn.results.toList fr₃ A').map fun r => (r, A') else none
      | _ => none
noncomputable def lvlS (E : Ev) (M : FuncId → List AV → Option AV) (L : Lvl) : Lvl := ⟨codeS E L, scopeS L, callS E M L, lastS E L⟩
noncomputable def lvl (E : Ev) (M : FuncId → List AV → Option AV) (k : Nat) : Lvl := Nat.rec (motive := fun _ => Lvl) lvl0 (fun _ L => lvlS E M L) k
theorem lvl_succ (E : Ev) (M : FuncId → List AV → Option AV) (k : Nat) : lvl E M (k + 1) = lvlS E M (lvl E M k) := rfl

/-- the call's answer is exactly this one -/
def CallsTo (C : Cx) (f : FuncId) (args : List AV) (A : AH) (r : AV) (A' : AH) : Prop := ACall C f args A fun r₁ A₁ => r₁ = r ∧ A₁ = A'
def CfOk (C : Cx) (cf : CallF) : Prop := ∀ f args A r A', cf f args A = some (r, A') → CallsTo C f args A r A'

def MemoOk (C : Cx) (M : FuncId → List AV → Option AV) : Prop := ∀ f args r, M f args = some r → ∀ A, CallsTo C f args A r A
theorem Env.lv_lt {φ : Env} {A : AH} {w : World} (hA : HRel φ A w) {b : Nat} (h : Lv φ b) : b < w.heap.size := by
  obtain ⟨β, δ, e⟩ := h
  obtain ⟨B, hB⟩ := hA.live β b δ e
  obtain ⟨b', δ', e', r⟩ := hA.blk β B hB
  rw [e] at e'; cases e'; exact r.lt
/-- the arguments are lent: a call that has its result at the frozen arguments on every memory, a result without memory of its own -/
theorem CallsTo.borrow {C : Cx} (hP : C.Plain) {f : FuncId} {us args : List AV} {r : AV} {A : AH} (h : ∀ A, CallsTo C f us A r A) {k : Nat} (hf : omap (freeze k A) args = some us) (hr : flat r = true) : CallsTo C f args A r A := by
  refine ⟨(h A).1, fun φ w vs hA hG hv => ?_⟩
  let φ₀ : Env := ⟨fun _ => .unborn, fun b => φ.priv b⟩
  have hLv : ∀ b, ¬ Lv φ₀ b := fun b ⟨β, δ, e⟩ => by cases e
  have hIm : ∀ b, Im φ₀ b → Im φ b ∧ ¬ Lv φ b := fun b x => x.elim (fun y => (hLv b y).elim) (fun y => ⟨.inr y, hA.dis _ y⟩)
  have hless : Less φ φ₀ (fun _ => True) := ⟨fun β hn => (hn trivial).elim, fun b x => (hIm b x).1⟩
  have hA₀ : HRel φ₀ AH.empty w := ⟨fun β => by constructor <;> intro _ <;> rfl, fun _ _ => rfl, fun β B hB => (by cases hB), fun β b δ e => (by cases e), fun β γ b δ δ' e => (by cases e), fun b x => hA.prv b x, fun b _ => hLv b⟩
  have hG₀ : GRel C φ₀ w := fun g cs hg => by
    exact CRel.less hless g 0 cs (fun i _ => noBlks_ment i cs (hP g cs hg)) (hG g cs hg)
  refine ((h AH.empty).2 φ₀ w vs hA₀ hG₀ (freezes_rels (fun v u y => freeze_sound hA hIm v u y) hf hv)).mono fun e w' ⟨y, φ', r', A₁, he, h1, h2, h3, hr1, hA1⟩ => ?_
  subst hr1 hA1
  have hE : Ext φ w φ w' := ⟨fun _ _ => .inl rfl, fun b hb _ => h3.keep b hb (hLv b), fun _ x => .inl x, h3.shape, h3.size, rfl, h3.os, h3.tape, h3.output⟩
  refine ⟨y, φ, r', A, he, flat_rel _ _ hr h1, ⟨hA.born, hA.fresh, fun β B hB => ?_, hA.live, hA.inj, fun b hb => Nat.lt_of_lt_of_le (hA.prv b hb) h3.size, hA.dis⟩, hE, rfl, rfl⟩
  obtain ⟨b, δ, e, x⟩ := hA.blk β B hB
  exact ⟨b, δ, e, x.ext hE (h3.keep b x.lt (hLv b))⟩
theorem callM_sound {E : Ev} (hE : E.Ok) {M : FuncId → List AV → Option AV} (hM : MemoOk E.C M) {f : FuncId} {args : List AV} {A : AH} {r : AV} (h : callM E M f args A = some r) : CallsTo E.C f args A r A := by
  unfold callM at h
  split at h
  · rename_i r' hm; cases h; exact hM _ _ _ hm A
  · split at h
    · split at h
      · rename_i us hu
        split at h
        · rename_i r' hm
          split at h
          · rename_i hf; cases h; exact CallsTo.borrow hE.plain (hM _ _ _ hm) hu hf
          · cases h
        · cases h
      · cases h
    · cases h
section
variable {E : Ev} {C : Cx} {cf : CallF}

theorem evOp_sound (h : CfOk C cf) {A : AH} {ρ : Operand → Option AV} {o : Oper} {v : AV} {A' : AH} (he : evOp cf C A ρ o = some (v, A')) : opWp C A ρ o fun v₁ A₁ => v₁ = v ∧ A₁ = A' := by
  unfold evOp at he
  split at he
  · obtain ⟨x, hx, h1⟩ := Option.bind_eq_some_iff.1 he
    exact .inr (.inr (.inr (.inr ⟨x.1, x.2, hx, h _ _ _ _ _ h1⟩)))
  · split at he
    · rename_i u hu; cases he; exact .inl ⟨_, hu, rfl, rfl⟩
    · split at he
      · rename_i r hr
        simp only [Option.map_eq_some_iff] at he
        obtain ⟨u, hu, e⟩ := he
        cases e
        exact .inr (.inl ⟨r, _, hr, hu, rfl, rfl⟩)
      · split at he
        · rename_i x hx
          cases he
          exact .inr (.inr (.inl ⟨x.1, x.2, hx, rfl, rfl⟩))
        · exact .inr (.inr (.inr (.inl ⟨v, A', he, rfl, rfl⟩)))
theorem evEff_sound (h : CfOk C cf) {A : AH} {ρ : Operand → Option AV} {o : Oper} {v : AV} {A' : AH} (he : evEff cf C A ρ o = some (v, A')) : effWp C A ρ o fun v₁ A₁ => v₁ = v ∧ A₁ = A' := by
  unfold evEff at he
  split at he
  · obtain ⟨x, hx, h1⟩ := Option.bind_eq_some_iff.1 he
    exact .inr ⟨x.1, x.2, hx, h _ _ _ _ _ h1⟩
  · exact .inl ⟨v, A', he, rfl, rfl⟩
theorem opWp_mono {A : AH} {ρ : Operand → Option AV} {o : Oper} {K K' : AV → AH → Prop} (h : opWp C A ρ o K) (hk : ∀ v A, K v A → K' v A) : opWp C A ρ o K' := by
  rcases h with ⟨v, h1, h2⟩ | ⟨r, v, h1, h2, h3⟩ | ⟨B, mk, h1, h2⟩ | ⟨v, A', h1, h2⟩ | ⟨f, args, h1, h2⟩
  · exact .inl ⟨v, h1, hk _ _ h2⟩
  · exact .inr (.inl ⟨r, v, h1, h2, hk _ _ h3⟩)
  · exact .inr (.inr (.inl ⟨B, mk, h1, hk _ _ h2⟩))
  · exact .inr (.inr (.inr (.inl ⟨v, A', h1, hk _ _ h2⟩)))
  · exact .inr (.inr (.inr (.inr ⟨f, args, h1, h2.mono hk⟩)))
theorem effWp_mono {A : AH} {ρ : Operand → Option AV} {o : Oper} {K K' : AV → AH → Prop} (h : effWp C A ρ o K) (hk : ∀ v A, K v A → K' v A) : effWp C A ρ o K' := by
  rcases h with ⟨v, A', h1, h2⟩ | ⟨f, args, h1, h2⟩
  · exact .inl ⟨v, A', h1, hk _ _ h2⟩
  · exact .inr ⟨f, args, h1, h2.mono hk⟩

theorem seqWp_mono {ops : Array Oper} {K K' : Fr → AH → Prop} : ∀ {l : List Oper} {fr : Fr} {A : AH}, seqWp C ops K l fr A → (∀ fr A, K fr A → K' fr A) → seqWp C ops K' l fr A
  | [], fr, A, h, hk => hk _ _ h
  | o :: rest, fr, A, h, hk => by
    obtain ⟨hf, h⟩ := h
    refine ⟨hf, ?_⟩
    cases hw : wantedA ops fr o with
    | none => rw [hw] at h; exact h.elim
    | some b =>
      rw [hw] at h
      cases b with
      | true => exact opWp_mono h fun v A₁ h1 => seqWp_mono h1 hk
      | false => exact seqWp_mono h hk
theorem evSeq_sound (h : CfOk C cf) {ops : Array Oper} {fr' : Fr} {A' : AH} : ∀ {l : List Oper} {fr : Fr} {A : AH}, evSeq cf C ops l fr A = some (fr', A') → seqWp C ops (fun fr₁ A₁ => fr₁ = fr' ∧ A₁ = A') l fr A
  | [], fr, A, he => by cases he; exact ⟨rfl, rfl⟩
  | o :: rest, fr, A, he => by
    simp only [evSeq] at he
    split at he
    · rename_i hfit
      refine ⟨hfit, ?_⟩
      cases hw : wantedA ops fr o with
      | none => rw [hw] at he; cases he
      | some b =>
        rw [hw] at he
        cases b with
        | true =>
          simp only at he ⊢
          split at he
          · rename_i x hx
            exact opWp_mono (evOp_sound h hx) fun v A₁ ⟨e1, e2⟩ => by rw [e1, e2]; exact evSeq_sound h he
          · cases he
        | false => exact evSeq_sound h he
    · cases he

theorem evCan_sound (h : CfOk C cf) {ops : Array Oper} {ms : List Nat} {fr' : Fr} {A' : AH} : ∀ {l : List Nat} {s : CS}, evCan cf C ops ms l s = some (fr', A') → canWp C ops ms (fun fr₁ A₁ => fr₁ = fr' ∧ A₁ = A') l s
  | [], s, he => by cases he; exact ⟨rfl, rfl⟩
  | i :: rest, s, he => by
    simp only [evCan] at he
    split at he
    · cases he
    · rename_i o ho
      refine ⟨o, ho, ?_⟩
      split at he
      case isFalse => cases he
      rename_i hfit
      refine ⟨hfit, ?_⟩
      split at he
      · cases he
      · rename_i hw; exact .inl ⟨hw, evCan_sound h he⟩
      · rename_i hw
        refine .inr ⟨hw, ?_⟩
        split at he
        · rename_i hE
          rw [if_pos hE]
          split at he
          case isFalse => cases he
          rename_i hq
          split at he
          case h_2 => cases he
          rename_i x hx
          split at he
          case isFalse => cases he
          rename_i hwb
          rw [Bool.and_eq_true] at hwb
          simp only [quietB, List.all_eq_true, Bool.and_eq_true] at hq
          refine ⟨fun hh hm => ⟨fun t ht v hv => ?_, fun h' hm' => ?_⟩, effWp_mono (evEff_sound h hx) fun v A₁ ⟨e1, e2⟩ => ?_⟩
          · have := (hq hh hm).1 t ht
            rw [hv] at this
            simpa using this
          · have := (hq hh hm).2 h' hm'
            simpa using this
          · rw [e1, e2]
            refine ⟨fun y hy => ?_, fun y hy => ?_, evCan_sound h he⟩
            · have h1 := hwb.1
              simp only [watchB, List.all_eq_true] at h1
              have h2 := h1 y hy
              split at h2
              · rename_i u hu; rw [hu, beqA_sound _ _ h2]
              · cases h2
            · have h1 := hwb.2
              simp only [unbornB, List.all_eq_true, Bool.and_eq_true, Option.isNone_iff_eq_none, decide_eq_true_eq] at h1
              exact h1 y hy
        · rename_i hE
          rw [if_neg hE]
          split at he
          · rename_i v hv; exact .inl ⟨v, .inl hv, evCan_sound h he⟩
          · split at he
            · rename_i v hv; exact .inl ⟨v, .inr hv, evCan_sound h he⟩
            · rename_i β f hv
              split at he
              · rename_i v hg; exact .inr (.inl ⟨β, f, v, hv, hg, evCan_sound h he⟩)
              · cases he
            · split at he
              · rename_i x hx; exact .inr (.inr ⟨x.1, x.2, hx, evCan_sound h he⟩)
              · cases he

def Ends (e : Go.Exit) (fr : Fr) (A : AH) : Go.Exit → Fr → AH → Prop := fun e₁ fr₁ A₁ => e₁ = e ∧ fr₁ = fr ∧ A₁ = A

/-- rounds of a loop, from the head of its body on -/
def LoopArr (C : Cx) (x : Code) (fr : Fr) (A : AH) (Q : Go.Exit → Fr → AH → Prop) : Prop :=
  ∀ D φ w a, HRel φ A w → GRel C φ w → FRel φ w fr a.tmps → a.defers = D → ∀ (b : Frame) (k : List Item) (cs : List Frame),
    ∃ e a' w', Post C D φ w Q e a' w' ∧ Arrives C.P (lone (b.at a (.code x :: .inLoop x :: k)) cs w) b k cs e a' w'
theorem LoopArr.loop {x : Code} {fr : Fr} {A : AH} {Q : Go.Exit → Fr → AH → Prop} (h : LoopArr C x fr A Q) : AWp C (.loop x) fr A Q := by
  intro D φ w a hA hG hF hD b k cs
  obtain ⟨e, a', w', hq, harr⟩ := h D φ w a hA hG hF hD b k cs
  exact ⟨e, a', w', hq, .of_steps (.one step_loop) harr⟩

/-- the run of a scope, from a piece of its body on -/
def ScopeArr (C : Cx) (x c : Code) (fr : Fr) (A : AH) (Q : Go.Exit → Fr → AH → Prop) : Prop :=
  ∀ D φ w a, HRel φ A w → GRel C φ w → FRel φ w fr a.tmps → a.defers = D → ∀ (b : Frame) (k : List Item) (cs : List Frame),
    ∃ e a' w', Post C D φ w Q e a' w' ∧ Arrives C.P (lone (b.at a (.code c :: .inScope x :: k)) cs w) b k cs e a' w'
theorem ScopeArr.scope {x : Code} {fr : Fr} {A : AH} {Q : Go.Exit → Fr → AH → Prop} (h : ScopeArr C x x fr A Q) : AWp C (.scope x) fr A Q := by
  intro D φ w a hA hG hF hD b k cs
  obtain ⟨e, a', w', hq, harr⟩ := h D φ w a hA hG hF hD b k cs
  exact ⟨e, a', w', hq, .of_steps (.one step_scope) harr⟩
theorem regionsOk_label {ords : List (Nat × List Nat)} : ∀ {c : Code} {l : Nat} {r : Code}, regionsOkB ords c = true → findLabel c l = some r → regionsOkB ords r = true
  | .seq a b, l, r, h, hf => by
    simp only [regionsOkB, Bool.and_eq_true] at h
    simp only [findLabel] at hf
    split at hf
    · rename_i rest hr
      cases hf
      simp only [regionsOkB, Bool.and_eq_true]
      exact ⟨regionsOk_label h.1 hr, h.2⟩
    · exact regionsOk_label h.2 hf
  | .label l', l, r, h, hf => by
    simp only [findLabel] at hf
    split at hf
    · cases hf; rfl
    · cases hf
  | .skip, _, _, _, hf => by simp [findLabel] at hf
  | .region .., _, _, _, hf => by simp [findLabel] at hf
  | .cond .., _, _, _, hf => by simp [findLabel] at hf
  | .block .., _, _, _, hf => by simp [findLabel] at hf
  | .loop .., _, _, _, hf => by simp [findLabel] at hf
  | .rangeFunc .., _, _, _, hf => by simp [findLabel] at hf
  | .exit .., _, _, _, hf => by simp [findLabel] at hf
  | .scope .., _, _, _, hf => by simp [findLabel] at hf
  | .goto .., _, _, _, hf => by simp [findLabel] at hf
  | .ret, _, _, _, hf => by simp [findLabel] at hf
  | .refuse .., _, _, _, hf => by simp [findLabel] at hf

theorem lvl_sound {M : FuncId → List AV → Option AV} (hE : E.Ok) (hM : MemoOk E.C M) : ∀ (k : Nat), (∀ ords c fr A e fr' A', regionsOkB ords c = true → (lvl E M k).code ords c fr A = some (e, fr', A') → AWp E.C c fr A (Ends e fr' A')) ∧ CfOk E.C ((lvl E M k).call) ∧
    (∀ ords x fr A e fr' A', regionsOkB ords x = true → (lvl E M k).code ords (.loop x) fr A = some (e, fr', A') → LoopArr E.C x fr A (Ends e fr' A')) ∧
    (∀ ords x c fr A e fr' A', regionsOkB ords x = true → regionsOkB ords c = true → (lvl E M k).scope ords x c fr A = some (e, fr', A') → ScopeArr E.C x c fr A (Ends e fr' A')) ∧
    (∀ g us A fn fr₃ r A', (lvl E M k).last g us A fn fr₃ = some (r, A') → ACallD E.C g us A fun _ A₁ => ∃ r₁, retA E.C fn.results.toList fr₃ A₁ = some r₁ ∧ r₁ = r ∧ A₁ = A') := by
  intro k
  induction k with
  | zero => exact ⟨fun ords c fr A e fr' A' _ h => (by cases h), fun f args A r A' h => (by cases h), fun ords c fr A e fr' A' _ h => (by cases h), fun ords x c fr A e fr' A' _ _ h => (by cases h), fun g us A fn fr₃ r A' h => (by cases h)⟩
  | succ k ih =>
    obtain ⟨ih1, ih2, ih3, ih4, ih5⟩ := ih
    have hloop : ∀ ords x fr A e fr' A', regionsOkB ords x = true → (lvl E M (k + 1)).code ords (.loop x) fr A = some (e, fr', A') → LoopArr E.C x fr A (Ends e fr' A') := by
      intro ords x fr A e fr' A' hr h
      simp only [lvl_succ, lvlS, codeS, sRegion, sNormal, sSeq, sCond, sBlock, sLoop] at h
      intro D φ w a hA hG hF hD b k' cs
      split at h
      · rename_i fr₁ A₁ h1
        obtain ⟨e1, a1, w1, ⟨fr2, A2, φ2, p1, p2, p3, p4, p5⟩, harr⟩ := ih1 _ _ _ _ _ _ _ hr h1 D φ w a hA hG hF hD b (.inLoop x :: k') cs
        obtain ⟨rfl, rfl, rfl⟩ := p5
        obtain ⟨e2, a2, w2, q, harr2⟩ := ih3 _ _ _ _ _ _ _ hr h D φ2 w1 a1 p1 (hG.ext p4) p2 p3 b k' cs
        exact ⟨e2, a2, w2, q.mono p4 (fun _ _ _ h => h), .of_steps (Steps.trans harr (.one step_inLoop)) harr2⟩
      · rename_i hn
        obtain ⟨e1, a1, w1, q, harr⟩ := ih1 _ _ _ _ _ _ _ hr h D φ w a hA hG hF hD b (.inLoop x :: k') cs
        have q' := q
        obtain ⟨fr2, A2, φ2, p1, p2, p3, p4, rfl, rfl, rfl⟩ := q'
        refine ⟨e1, a1, w1, q, .pass (x := .inLoop x) rfl (fun _ _ => .inl ?_) harr⟩
        rintro rfl
        exact absurd h (hn _ _)
    have hscope : ∀ ords x c fr A e fr' A', regionsOkB ords x = true → regionsOkB ords c = true → (lvl E M (k + 1)).scope ords x c fr A = some (e, fr', A') → ScopeArr E.C x c fr A (Ends e fr' A') := by
      intro ords x c fr A e fr' A' hx hc h
      simp only [lvl_succ, lvlS, scopeS] at h
      intro D φ w a hA hG hF hD b k' cs
      split at h
      · rename_i l fr₁ A₁ h1
        obtain ⟨e1, a1, w1, ⟨fr2, A2, φ2, p1, p2, p3, p4, p5⟩, harr⟩ := ih1 _ _ _ _ _ _ _ hc h1 D φ w a hA hG hF hD b (.inScope x :: k') cs
        obtain ⟨rfl, rfl, rfl⟩ := p5
        split at h
        · rename_i rest hf
          have hg : gotoIn l (.inScope x :: k') = some (.code rest :: .inScope x :: k') := by simp [gotoIn, hf]
          obtain ⟨e2, a2, w2, q, harr2⟩ := ih4 _ _ _ _ _ _ _ _ hx (regionsOk_label hx hf) h D φ2 w1 a1 p1 (hG.ext p4) p2 p3 b k' cs
          exact ⟨e2, a2, w2, q.mono p4 (fun _ _ _ h => h), .of_steps (harr _ hg) harr2⟩
        · cases h
      · rename_i hn
        obtain ⟨e1, a1, w1, q, harr⟩ := ih1 _ _ _ _ _ _ _ hc h D φ w a hA hG hF hD b (.inScope x :: k') cs
        have q' := q
        obtain ⟨fr2, A2, φ2, p1, p2, p3, p4, rfl, rfl, rfl⟩ := q'
        refine ⟨e1, a1, w1, q, ?_⟩
        cases e1 with
        | normal => exact Steps.trans harr (.one step_inScope)
        | exit id => exact fun k'' hk => harr k'' (by simp [exitTo, hk])
        | goto l => exact absurd h (hn _ _ _)
        | ret => exact harr
        | panic ch => exact harr
        | outgrown => exact harr
    have hlast : ∀ g us A fn fr₃ r A', (lvl E M (k + 1)).last g us A fn fr₃ = some (r, A') → ACallD E.C g us A fun _ A₁ => ∃ r₁, retA E.C fn.results.toList fr₃ A₁ = some r₁ ∧ r₁ = r ∧ A₁ = A' := by
      intro g us A fn fr₃ r A' h
      simp only [lvl_succ, lvlS, lastS] at h
      split at h
      · cases h
      · rename_i x hx
        obtain ⟨h1, h2, h3⟩ := hE.fn g x hx
        split at h
        · cases h
        · rename_i c hc
          refine ACallD.of_body hE.ok h1 hc h2 ?_
          split at h
          · rename_i fr₁ A₁ hb
            split at h
            case isFalse => cases h
            rename_i his
            obtain ⟨u, hu⟩ := Option.isSome_iff_exists.1 his
            simp only [Option.map_eq_some_iff] at h
            obtain ⟨v, hv, e⟩ := h
            cases e
            refine (ih1 _ _ _ _ _ _ _ (h3 c hc) hb).mono ?_
            rintro e2 fr2 A2 ⟨rfl, rfl, rfl⟩
            exact ⟨u, hu, _, hv, rfl, rfl⟩
          · rename_i fr₁ A₁ hb
            split at h
            case isFalse => cases h
            rename_i his
            obtain ⟨u, hu⟩ := Option.isSome_iff_exists.1 his
            simp only [Option.map_eq_some_iff] at h
            obtain ⟨v, hv, e⟩ := h
            cases e
            refine (ih1 _ _ _ _ _ _ _ (h3 c hc) hb).mono ?_
            rintro e2 fr2 A2 ⟨rfl, rfl, rfl⟩
            exact ⟨u, hu, _, hv, rfl, rfl⟩
          · cases h
    refine ⟨fun ords c fr A e fr' A' hr h => ?_, fun f args A r A' h => ?_, hloop, hscope, hlast⟩
    · cases c with
      | skip => simp only [lvl_succ, lvlS, codeS, sRegion, sNormal, sSeq, sCond, sBlock, sLoop] at h; cases h; exact AWp.skip ⟨rfl, rfl, rfl⟩
      | label l => simp only [lvl_succ, lvlS, codeS, sRegion, sNormal, sSeq, sCond, sBlock, sLoop] at h; cases h; exact AWp.label ⟨rfl, rfl, rfl⟩
      | ret => simp only [lvl_succ, lvlS, codeS, sRegion, sNormal, sSeq, sCond, sBlock, sLoop] at h; cases h; exact AWp.ret ⟨rfl, rfl, rfl⟩
      | exit id => simp only [lvl_succ, lvlS, codeS, sRegion, sNormal, sSeq, sCond, sBlock, sLoop] at h; cases h; exact AWp.exit ⟨rfl, rfl, rfl⟩
      | region id ops draw =>
        simp only [lvl_succ, lvlS, codeS, sNormal] at h
        split at h
        case h_2 => cases h
        rename_i x hx
        cases h
        cases draw with
        | true =>
          have hx : evCan (lvl E M k).call E.C ops (msOf ops) (ordOf ords id ops.size) ⟨fr, A, [], []⟩ = some x := hx
          have hD := drawOk_of (ord := ordOf ords id ops.size) hr
          refine AWp.draw hE.ok hD ?_
          have := evCan_sound ih2 hx
          have e : (Ends .normal x.1 x.2 .normal) = (fun fr₁ A₁ => fr₁ = x.1 ∧ A₁ = x.2) := by
            funext fr₁ A₁; simp [Ends]
          rw [e]; exact this
        | false =>
          have hx : kSeq (lvl E M k).call E.C ops ops.toList fr A = some x := hx
          refine AWp.region hE.ok ?_
          have := evSeq_sound ih2 (kSeq_sound hx)
          have e : (Ends .normal x.1 x.2 .normal) = (fun fr₁ A₁ => fr₁ = x.1 ∧ A₁ = x.2) := by
            funext fr₁ A₁; simp [Ends]
          rw [e]; exact this
      | seq x y =>
        simp only [regionsOkB, Bool.and_eq_true] at hr
        simp only [lvl_succ, lvlS, codeS, sRegion, sNormal, sSeq, sCond, sBlock, sLoop] at h
        refine AWp.seq ?_
        split at h
        · rename_i fr₁ A₁ h1
          refine (ih1 _ _ _ _ _ _ _ hr.1 h1).mono ?_
          rintro e2 fr2 A2 ⟨rfl, rfl, rfl⟩
          exact ih1 _ _ _ _ _ _ _ hr.2 h
        · rename_i hn
          refine (ih1 _ _ _ _ _ _ _ hr.1 h).mono ?_
          rintro e2 fr2 A2 ⟨rfl, rfl, rfl⟩
          cases e2 with
          | normal => exact absurd h (hn _ _)
          | _ => exact ⟨rfl, rfl, rfl⟩
      | cond b x y =>
        simp only [regionsOkB, Bool.and_eq_true] at hr
        simp only [lvl_succ, lvlS, codeS, sRegion, sNormal, sSeq, sCond, sBlock, sLoop] at h
        split at h
        · rename_i hb
          exact AWp.cond hb (fun _ => ih1 _ _ _ _ _ _ _ hr.1 h) (fun e => by cases e)
        · rename_i hb
          exact AWp.cond hb (fun e => by cases e) (fun _ => ih1 _ _ _ _ _ _ _ hr.2 h)
        · cases h
      | block id x =>
        simp only [regionsOkB] at hr
        simp only [lvl_succ, lvlS, codeS, sRegion, sNormal, sSeq, sCond, sBlock, sLoop] at h
        refine AWp.block ?_
        split at h
        · rename_i id' fr₁ A₁ h1
          refine (ih1 _ _ _ _ _ _ _ hr h1).mono ?_
          rintro e2 fr2 A2 ⟨rfl, rfl, rfl⟩
          simp only [blockA]
          split at h
          · rename_i hid; cases h; rw [if_pos hid]; exact ⟨rfl, rfl, rfl⟩
          · rename_i hid; cases h; rw [if_neg hid]; exact ⟨rfl, rfl, rfl⟩
        · rename_i hn
          refine (ih1 _ _ _ _ _ _ _ hr h).mono ?_
          rintro e2 fr2 A2 ⟨rfl, rfl, rfl⟩
          cases e2 with
          | exit id' => exact absurd h (hn _ _ _)
          | _ => exact ⟨rfl, rfl, rfl⟩
      | loop x =>
        simp only [regionsOkB] at hr
        exact (hloop _ _ _ _ _ _ _ hr h).loop
      | scope x =>
        simp only [regionsOkB] at hr
        simp only [lvl_succ, lvlS, codeS, sRegion, sNormal, sSeq, sCond, sBlock, sLoop] at h
        exact (ih4 _ _ _ _ _ _ _ _ hr hr h).scope
      | rangeFunc f ps a b => simp only [lvl_succ, lvlS, codeS, sRegion, sNormal, sSeq, sCond, sBlock, sLoop] at h; cases h
      | goto l => simp only [lvl_succ, lvlS, codeS, sRegion, sNormal, sSeq, sCond, sBlock, sLoop] at h; cases h; exact AWp.goto ⟨rfl, rfl, rfl⟩
      | refuse w => simp only [lvl_succ, lvlS, codeS, sRegion, sNormal, sSeq, sCond, sBlock, sLoop] at h; cases h
    · simp only [lvl_succ, lvlS, callS, sEnter, sBody, sDefer, sDefer2, sDefer3, sLeave, sRet] at h
      split at h
      · rename_i r' hm
        cases h
        exact callM_sound hE hM hm
      split at h
      · cases h
      · rename_i x hx
        obtain ⟨h1, h2, h3⟩ := hE.fn f x hx
        split at h
        · cases h
        · rename_i c hc
          have hreg := h3 c hc
          split at h
          · rename_i y hy
            obtain ⟨pre, ops, l, o, rest⟩ := y
            obtain ⟨id, rfl, hl⟩ := dfSplit_eq hy
            simp only [regionsOkB, Bool.and_eq_true] at hreg
            refine ACall.of_defer hE.ok h1 hc hl h2 ?_
            simp only at h
            split at h
            case h_2 => cases h
            rename_i fr₁ A₁ hpre
            refine (ih1 _ _ _ _ _ _ _ hreg.1 hpre).mono ?_
            rintro e2 fr2 A2 ⟨rfl, rfl, rfl⟩
            simp only [onlyA]
            split at h
            case h_2 => cases h
            rename_i fr₂ A₂ hseq
            refine seqWp_mono (evSeq_sound ih2 hseq) ?_
            rintro fr2 A2 ⟨rfl, rfl⟩
            split at h
            case isFalse => cases h
            rename_i hw
            split at h
            case h_2 => cases h
            rename_i z hz
            refine ⟨(wantedO_sound hw).1, (wantedO_sound hw).2, z.1, z.2, hz, ?_⟩
            split at h
            · rename_i fr₃ A₃ hrest
              refine (ih1 _ _ _ _ _ _ _ hreg.2.2 hrest).mono ?_
              rintro e2 fr2 A2 ⟨rfl, rfl, rfl⟩
              exact ih5 _ _ _ _ _ _ _ h
            · rename_i fr₃ A₃ hrest
              refine (ih1 _ _ _ _ _ _ _ hreg.2.2 hrest).mono ?_
              rintro e2 fr2 A2 ⟨rfl, rfl, rfl⟩
              exact ih5 _ _ _ _ _ _ _ h
            · cases h
          · refine ACall.of_body hE.ok h1 hc h2 ?_
            split at h
            · rename_i fr₁ A₁ hb
              simp only [Option.map_eq_some_iff] at h
              obtain ⟨v, hv, e⟩ := h
              cases e
              refine (ih1 _ _ _ _ _ _ _ (h3 c hc) hb).mono ?_
              rintro e2 fr2 A2 ⟨rfl, rfl, rfl⟩
              exact ⟨_, hv, rfl, rfl⟩
            · rename_i fr₁ A₁ hb
              simp only [Option.map_eq_some_iff] at h
              obtain ⟨v, hv, e⟩ := h
              cases e
              refine (ih1 _ _ _ _ _ _ _ (h3 c hc) hb).mono ?_
              rintro e2 fr2 A2 ⟨rfl, rfl, rfl⟩
              exact ⟨_, hv, rfl, rfl⟩
            · cases h
end
end Go.Am

namespace Go.Am
open Go

/-- a call that ran on the empty memory, and whose result can be frozen, runs so on every memory, and leaves that alone -/
theorem CallsTo.pure {C : Cx} (hP : C.Plain) {f : FuncId} {args : List AV} {r u : AV} {A' : AH} (h : CallsTo C f args AH.empty r A') (ha : noBlks args = true) {k : Nat} (hf : freeze k A' r = some u) (A : AH) : CallsTo C f args A u A := by
  refine ⟨h.1, fun φ w vs hA hG hv => ?_⟩
  let φ₀ : Env := ⟨fun _ => .unborn, fun b => Im φ b⟩
  have hLv : ∀ b, ¬ Lv φ₀ b := fun b ⟨β, δ, e⟩ => by cases e
  have hIm : ∀ b, Im φ₀ b ↔ Im φ b := fun b => ⟨fun x => x.elim (fun y => (hLv b y).elim) (fun y => y), fun x => .inr x⟩
  have hlt : ∀ b, Lv φ b → b < w.heap.size := fun b ⟨β, δ, e⟩ => by
    obtain ⟨B, hB⟩ := hA.live β b δ e
    obtain ⟨b', δ', e', r⟩ := hA.blk β B hB
    rw [e] at e'; cases e'; exact r.lt
  have hless : Less φ φ₀ (fun _ => True) := ⟨fun β hn => (hn trivial).elim, fun b x => (hIm b).1 x⟩
  have hA₀ : HRel φ₀ AH.empty w := ⟨fun β => by constructor <;> intro _ <;> rfl, fun _ _ => rfl, fun β B hB => (by cases hB), fun β b δ e => (by cases e), fun β γ b δ δ' e => (by cases e), fun b x => x.elim (hlt b) (hA.prv b), fun b _ => hLv b⟩
  have hG₀ : GRel C φ₀ w := fun g cs hg => by
    exact CRel.less hless g 0 cs (fun i _ => noBlks_ment i cs (hP g cs hg)) (hG g cs hg)
  refine (h.2 φ₀ w vs hA₀ hG₀ (VRels.less hless args vs.toList (fun i _ => noBlks_ment i args ha) hv)).mono fun e w' ⟨y, φ', r', A₁, he, h1, h2, h3, hr, hA1⟩ => ?_
  subst hr hA1
  have hI : ∀ b, Im φ b → Im φ' b ∧ ¬ Lv φ' b := fun b x => ⟨.inr (by rw [h3.priv]; exact x), fun y => (h3.lv b y).elim (hLv b) (fun z => by
    have : b < w.heap.size := x.elim (hlt b) (hA.prv b)
    omega)⟩
  have hE : Ext φ w φ w' := ⟨fun _ _ => .inl rfl, fun b hb _ => h3.keep b hb (hLv b), fun _ x => .inl x, h3.shape, h3.size, rfl, h3.os, h3.tape, h3.output⟩
  refine ⟨y, φ, u, A, he, freeze_sound h2 hI _ _ _ hf h1, ⟨hA.born, hA.fresh, fun β B hB => ?_, hA.live, hA.inj, fun b hb => Nat.lt_of_lt_of_le (hA.prv b hb) h3.size, hA.dis⟩, hE, rfl, rfl⟩
  obtain ⟨b, δ, e, x⟩ := hA.blk β B hB
  exact ⟨b, δ, e, x.ext hE (h3.keep b x.lt (hLv b))⟩
end Go.Am

namespace Go.Am
open Go

/-! ## facts: results of calls, and tables of them -/
abbrev Fact := FuncId × List AV × AV
def FactOk (C : Cx) (x : Fact) : Prop := ∀ A, CallsTo C x.1 x.2.1 A x.2.2 A
def memoF : List Fact → FuncId → List AV → Option AV
  | [], _, _ => none
  | x :: l, f, args => match Nat.beq x.1 f with
    | true => match beqAs x.2.1 args with
      | true => some x.2.2
      | false => memoF l f args
    | false => memoF l f args
theorem memoF_ok {C : Cx} : ∀ {l : List Fact}, (∀ x ∈ l, FactOk C x) → MemoOk C (memoF l)
  | [], h, f, args, r, hm, A => by cases hm
  | x :: l, h, f, args, r, hm, A => by
    simp only [memoF] at hm
    have ih := memoF_ok (l := l) fun y hy => h y (List.mem_cons_of_mem _ hy)
    split at hm
    · rename_i hf
      split at hm
      · rename_i ha
        cases hm
        have := h x List.mem_cons_self A
        rw [Nat.eq_of_beq_eq_true hf, beqAs_sound _ _ ha] at this
        exact this
      · exact ih f args r hm A
    · exact ih f args r hm A
noncomputable def factB (E : Ev) (l : List Fact) (k : Nat) (x : Fact) : Bool :=
  noBlks x.2.1 && match (lvl E (memoF l) k).call x.1 x.2.1 AH.empty with
    | some (r, A) => match freeze 100 A r with
      | some u => beqA u x.2.2
      | none => false
    | none => false
theorem fact_of {E : Ev} (hE : E.Ok) (hP : E.C.Plain) {l : List Fact} (hl : ∀ y ∈ l, FactOk E.C y) {k : Nat} {x : Fact} (h : factB E l k x = true) : FactOk E.C x := by
  unfold factB at h
  rw [Bool.and_eq_true] at h
  obtain ⟨h1, h2⟩ := h
  split at h2
  · rename_i r A hr
    split at h2
    · rename_i u hu
      rw [beqA_sound _ _ h2] at hu
      exact CallsTo.pure hP ((lvl_sound hE (memoF_ok hl) k).2.1 _ _ _ _ _ hr) h1 hu
    · cases h2
  · cases h2
theorem facts_nil {C : Cx} : ∀ y ∈ ([] : List Fact), FactOk C y := fun _ h => by cases h
theorem facts_cons {C : Cx} {x : Fact} {l : List Fact} (h : FactOk C x) (k : ∀ y ∈ l, FactOk C y) : ∀ y ∈ x :: l, FactOk C y := fun y hy => by
  rcases List.mem_cons.1 hy with rfl | hy
  · exact h
  · exact k y hy
end Go.Am

namespace Go.Am
open Go

def kindOf (i : TyI) : Nat := if i.isAgg then 1 else 0
def bodyOk (ords : List (Nat × List Nat)) : Option Code → Bool
  | some c => regionsOkB ords c
  | none => false
/-- a type's facts, off the program's tables -/
def mkTy (P : Program) (t : Nat) : Option TyI :=
  match P.underlying t, P.info? t with
  | some d, some i => match i.zero with
    | some z => match omap ofSc z.cells.toList with
      | some zs =>
        let ti : TyI := ⟨d, i.size, i.bytes, zs, !(P.eqGuardType P.depth t) && !(P.stoodInHeld t)⟩
        if kindB z = kindOf ti then some ti else none
      | none => none
    | none => none
  | _, _ => none
def cxOf (P : Program) (G : Nat → Option (List AV)) : Cx := ⟨P, mkTy P, G⟩
theorem cxOf_ok {P : Program} (G : Nat → Option (List AV)) (hm : P.follows .mixedOrders = true) : (cxOf P G).Ok := by
  refine ⟨fun t i h' => ?_, hm⟩
  change mkTy P t = some i at h'
  unfold mkTy at h'
  split at h'
  case h_2 => exact absurd h' (by simp)
  rename_i d inf hd hi
  split at h'
  case h_2 => exact absurd h' (by simp)
  rename_i z hz
  split at h'
  case h_2 => exact absurd h' (by simp)
  rename_i zs hzs
  simp only at h'
  split at h'
  case isFalse => exact absurd h' (by simp)
  rename_i hk
  have he := Option.some.inj h'
  subst he
  refine ⟨hd, ⟨inf, z, hi, rfl, rfl, hz, hzs, hk⟩, fun hp => ?_⟩
  simp only [Bool.and_eq_true, Bool.not_eq_true'] at hp
  exact hp

/-- the functions of a program, with the orders in which their drawn regions are followed -/
def fnOf (P : Program) (ords : Nat → List (Nat × List Nat)) (f : Nat) : Option (Func × List (Nat × List Nat)) :=
  match P.funcs[f]? with
  | some fn => if (fn.name == "runtime.NumGoroutine") = false ∧ bodyOk (ords f) fn.body = true then some (fn, ords f) else none
  | none => none
def evOf (P : Program) (G : Nat → Option (List AV)) (ords : Nat → List (Nat × List Nat)) : Ev := ⟨cxOf P G, fnOf P ords, fun _ => false⟩
theorem evOf_ok {P : Program} (G : Nat → Option (List AV)) (ords : Nat → List (Nat × List Nat)) (hm : P.follows .mixedOrders = true) (hp : (cxOf P G).Plain) : (evOf P G ords).Ok := by
  refine ⟨cxOf_ok G hm, hp, fun f x h' => ?_⟩
  change fnOf P ords f = some x at h'
  unfold fnOf at h'
  split at h'
  · rename_i fn hf
    split at h'
    · rename_i hc
      have he := Option.some.inj h'
      subst he
      refine ⟨hf, hc.1, fun c hb => ?_⟩
      have h2 := hc.2
      rw [hb] at h2
      exact h2
    · exact absurd h' (by simp)
  · exact absurd h' (by simp)
end Go.Am

namespace Go.Am
open Go
def ofL {α : Type} : List (Nat × α) → Trie α
  | [] => .nil
  | (k, x) :: l => (ofL l).set k (some x)
theorem ofL_get {α : Type} : ∀ {l : List (Nat × α)} {k : Nat} {x : α}, (ofL l).get k = some x → (k, x) ∈ l
  | [], k, x, h => by simp [ofL, Trie.get] at h
  | (j, y) :: l, k, x, h => by
    simp only [ofL, Trie.get_set] at h
    split at h
    · rename_i e; cases h; subst e; simp
    · exact List.mem_cons_of_mem _ (ofL_get h)
/-- the types' facts -/
def tyL (P : Program) (n : Nat) : List (Nat × TyI) := (List.range n).filterMap fun t => (mkTy P t).map fun i => (t, i)
def FnFact (P : Program) (e : Nat × (Func × List (Nat × List Nat))) : Prop := P.funcs[e.1]? = some e.2.1 ∧ (e.2.1.name == "runtime.NumGoroutine") = false ∧ ∀ c, e.2.1.body = some c → regionsOkB e.2.2 c = true
def tabT {α : Type} (f : Nat → Option α) : Nat → Trie α
  | 0 => .nil
  | n + 1 => (tabT f n).set n (f n)
theorem tabT_get {α : Type} {f : Nat → Option α} : ∀ {n k : Nat} {x : α}, (tabT f n).get k = some x → f k = some x
  | 0, k, x, h => by simp [tabT, Trie.get] at h
  | n + 1, k, x, h => by
    simp only [tabT, Trie.get_set] at h
    split at h
    · rename_i e; subst e; exact h
    · exact tabT_get h
def seatC (P : Program) (G : Nat → Option (List AV)) (n : Nat) : Cx := ⟨P, (tabT (mkTy P) n).get, G⟩
def seatE (P : Program) (G : Nat → Option (List AV)) (n : Nat) (fs : List (Nat × (Func × List (Nat × List Nat)))) (W : Nat → Bool) : Ev := ⟨seatC P G n, (ofL fs).get, W⟩
theorem seatC_ok {P : Program} (G : Nat → Option (List AV)) (n : Nat) (hm : P.follows .mixedOrders = true) : (seatC P G n).Ok :=
  ⟨fun t i h => (cxOf_ok G hm).ty t i (tabT_get h), hm⟩
theorem seatE_ok {P : Program} (G : Nat → Option (List AV)) (n : Nat) {fs : List (Nat × (Func × List (Nat × List Nat)))} (W : Nat → Bool) (hm : P.follows .mixedOrders = true) (hp : (seatC P G n).Plain) (h : ∀ e ∈ fs, FnFact P e) : (seatE P G n fs W).Ok :=
  ⟨seatC_ok G n hm, hp, fun f x hx => h _ (ofL_get hx)⟩
theorem fnFact_nil {P : Program} : ∀ e ∈ ([] : List (Nat × (Func × List (Nat × List Nat)))), FnFact P e := fun _ h => by cases h
theorem fnFact_cons {P : Program} {k : Nat} {fn : Func} {o : List (Nat × List Nat)} {l : List (Nat × (Func × List (Nat × List Nat)))} (h1 : P.funcs[k]? = some fn) (h2 : (!(fn.name == "runtime.NumGoroutine") && bodyOk o fn.body) = true)
    (h : ∀ e ∈ l, FnFact P e) : ∀ e ∈ (k, (fn, o)) :: l, FnFact P e := fun e he => by
  rcases List.mem_cons.1 he with rfl | he
  · simp only [Bool.and_eq_true, Bool.not_eq_true'] at h2
    exact ⟨h1, h2.1, fun c hc => by have h3 := h2.2; have hc' : fn.body = some c := hc; rw [hc'] at h3; exact h3⟩
  · exact h e he
end Go.Am

/- A part of the proof about cellularlaw49.OrphanBalanced: lemmas only; what they say is theirs alone and no condition of the claim. -/
import Derived.Orders
import Derived.Below
set_option autoImplicit false
set_option linter.unusedVariables false
set_option linter.unusedSimpArgs false
noncomputable section
namespace Go.Am
open Go

/-! ## a finite map from numbers -/
inductive Trie (α : Type) where
  | nil
  | node (v : Option α) (l r : Trie α)
namespace Trie
variable {α : Type}
def getC : Trie α → Nat → Option α
  | .nil, _ => none
  | .node v l r, n => match n with
    | 0 => v
    | m + 1 => if m % 2 = 0 then l.getC (m / 2) else r.getC (m / 2)
def setF : Nat → Trie α → Nat → Option α → Trie α
  | 0, t, _, _ => t
  | f + 1, .nil, n, x => match n with
    | 0 => .node x .nil .nil
    | m + 1 => if m % 2 = 0 then .node none (setF f .nil (m / 2) x) .nil else .node none .nil (setF f .nil (m / 2) x)
  | f + 1, .node v l r, n, x => match n with
    | 0 => .node x l r
    | m + 1 => if m % 2 = 0 then .node v (setF f l (m / 2) x) r else .node v l (setF f r (m / 2) x)
def setC (t : Trie α) (n : Nat) (x : Option α) : Trie α := setF (n + 1) t n x
theorem getC_nil (n : Nat) : (Trie.nil : Trie α).getC n = none := rfl
theorem getC_setF : ∀ (f : Nat) (t : Trie α) (n : Nat) (x : Option α) (k : Nat), n < f → (setF f t n x).getC k = if k = n then x else t.getC k
  | 0, _, _, _, _, h => by omega
  | f + 1, .nil, n, x, k, h => by
    cases n with
    | zero => cases k <;> simp [setF, getC]
    | succ m =>
      simp only [setF]
      split
      · cases k with
        | zero => simp [getC]
        | succ j =>
          simp only [getC]
          split
          · rw [getC_setF f .nil (m / 2) x (j / 2) (by omega)]
            by_cases e : j = m
            · subst e; simp
            · rw [if_neg (by omega), if_neg (by omega)]; rfl
          · rw [if_neg (by omega)]
      · cases k with
        | zero => simp [getC]
        | succ j =>
          simp only [getC]
          split
          · rw [if_neg (by omega)]
          · rw [getC_setF f .nil (m / 2) x (j / 2) (by omega)]
            by_cases e : j = m
            · subst e; simp
            · rw [if_neg (by omega), if_neg (by omega)]; rfl
  | f + 1, .node v l r, n, x, k, h => by
    cases n with
    | zero => cases k <;> simp [setF, getC]
    | succ m =>
      simp only [setF]
      split
      · cases k with
        | zero => simp [getC]
        | succ j =>
          simp only [getC]
          split
          · rw [getC_setF f l (m / 2) x (j / 2) (by omega)]
            by_cases e : j = m
            · subst e; simp
            · rw [if_neg (by omega), if_neg (by omega)]
          · rw [if_neg (by omega)]
      · cases k with
        | zero => simp [getC]
        | succ j =>
          simp only [getC]
          split
          · rw [if_neg (by omega)]
          · rw [getC_setF f r (m / 2) x (j / 2) (by omega)]
            by_cases e : j = m
            · subst e; simp
            · rw [if_neg (by omega), if_neg (by omega)]
theorem getC_set (t : Trie α) (n : Nat) (x : Option α) (k : Nat) : (t.setC n x).getC k = if k = n then x else t.getC k :=
  getC_setF (n + 1) t n x k (by omega)
theorem getC_set_self (t : Trie α) (n : Nat) (x : Option α) : (t.setC n x).getC n = x := by simp [getC_set]
theorem getC_set_ne (t : Trie α) (n : Nat) (x : Option α) (k : Nat) (h : k ≠ n) : (t.setC n x).getC k = t.getC k := by simp [getC_set, h]

def pk2 (gl gr : Nat → Option α) (m : Nat) : Option α := match Nat.beq (Nat.land m 1) 0 with | true => gl (Nat.shiftRight m 1) | false => gr (Nat.shiftRight m 1)
noncomputable def pk (v : Option α) (gl gr : Nat → Option α) (n : Nat) : Option α := Nat.rec (motive := fun _ => Option α) v (fun m _ => pk2 gl gr m) n
noncomputable def get (t : Trie α) : Nat → Option α := Trie.rec (motive := fun _ => Nat → Option α) (fun _ => none) (fun v _ _ gl gr => pk v gl gr) t
def sk2 (v : Option α) (l r : Trie α) (sl sr : Nat → Trie α) (m : Nat) : Trie α := match Nat.beq (Nat.land m 1) 0 with | true => .node v (sl (Nat.shiftRight m 1)) r | false => .node v l (sr (Nat.shiftRight m 1))
noncomputable def sk (x v : Option α) (l r : Trie α) (sl sr : Nat → Trie α) (n : Nat) : Trie α := Nat.rec (motive := fun _ => Trie α) (.node x l r) (fun m _ => sk2 v l r sl sr m) n
noncomputable def set (t : Trie α) (n : Nat) (x : Option α) : Trie α := Trie.rec (motive := fun _ => Nat → Trie α) (fun n => setC .nil n x) (fun v l r sl sr => sk x v l r sl sr) t n
theorem land_one (m : Nat) : Nat.land m 1 = m % 2 := Nat.and_one_is_mod m
theorem shr_one (m : Nat) : Nat.shiftRight m 1 = m / 2 := Nat.shiftRight_eq_div_pow m 1
theorem get_eq : ∀ (t : Trie α) (n : Nat), t.get n = t.getC n
  | .nil, n => rfl
  | .node v l r, 0 => rfl
  | .node v l r, m + 1 => by
    have hl := get_eq l (m / 2)
    have hr := get_eq r (m / 2)
    show pk2 (Trie.get l) (Trie.get r) m = _
    simp only [pk2, land_one, shr_one, getC, hl, hr]
    by_cases h : m % 2 = 0
    · rw [if_pos h, h]
    · rw [if_neg h]
      have : m % 2 = 1 := by omega
      rw [this]
theorem setF_fuel : ∀ (f f' : Nat) (t : Trie α) (n : Nat) (x : Option α), n < f → n < f' → setF f t n x = setF f' t n x
  | 0, _, _, _, _, h, _ => by omega
  | f + 1, 0, _, _, _, _, h => by omega
  | f + 1, f' + 1, .nil, n, x, h, h' => by
    cases n with
    | zero => rfl
    | succ m => simp only [setF]; rw [setF_fuel f f' .nil (m / 2) x (by omega) (by omega)]
  | f + 1, f' + 1, .node v l r, n, x, h, h' => by
    cases n with
    | zero => rfl
    | succ m => simp only [setF]; rw [setF_fuel f f' l (m / 2) x (by omega) (by omega), setF_fuel f f' r (m / 2) x (by omega) (by omega)]
theorem set_eq : ∀ (t : Trie α) (n : Nat) (x : Option α), t.set n x = t.setC n x
  | .nil, n, x => rfl
  | .node v l r, 0, x => rfl
  | .node v l r, m + 1, x => by
    have hl := set_eq l (m / 2) x
    have hr := set_eq r (m / 2) x
    show sk2 v l r (fun n => Trie.set l n x) (fun n => Trie.set r n x) m = _
    simp only [sk2, land_one, shr_one, hl, hr, setC]
    rw [setF]
    by_cases h : m % 2 = 0
    · rw [if_pos h, h, setF_fuel (m + 1) (m / 2 + 1) l (m / 2) x (by omega) (by omega)]
    · rw [if_neg h, setF_fuel (m + 1) (m / 2 + 1) r (m / 2) x (by omega) (by omega)]
      have : m % 2 = 1 := by omega
      rw [this]
theorem get_csimp : @get = @getC := by funext α t n; exact get_eq t n
theorem set_csimp : @set = @setC := by funext α t n x; exact set_eq t n x
theorem get_nil (n : Nat) : (Trie.nil : Trie α).get n = none := rfl
theorem get_set (t : Trie α) (n : Nat) (x : Option α) (k : Nat) : (t.set n x).get k = if k = n then x else t.get k := by rw [get_eq, get_eq, set_eq, getC_set]
theorem get_set_self (t : Trie α) (n : Nat) (x : Option α) : (t.set n x).get n = x := by simp [get_set]
theorem get_set_ne (t : Trie α) (n : Nat) (x : Option α) (k : Nat) (h : k ≠ n) : (t.set n x).get k = t.get k := by simp [get_set, h]
end Trie

/-! ## abstract values -/
inductive AV where
  | bool (b : Bool)
  | int (k : IntKind) (n : Int)
  | str (s : ByteArray)
  | nilptr
  | ptr (β o : Nat)
  | iptr (cs : List AV)
  | slice (β o : Nat) (len : Nat) (cap : Option Nat) (es : Nat)
  | vec (nl : Bool) (len : Nat) (cap : Option Nat) (cs : List AV)
  | nilmap
  | map (β : Nat)
  | func (fn : Fn) (first captured : List AV)
  | nilFunc
  | iface (t : TypeId) (v : AV)
  | nilIface
  | agg (cs : List AV)
  | tuple (vs : List AV)
  deriving Inhabited

/-- not an aggregate and not a tuple: the value of one cell -/
def AV.sc : AV → Bool
  | .agg _ => false
  | .tuple _ => false
  | _ => true

/-- where an abstract block lies -/
inductive Loc where
  | unborn
  | gone
  | live (b δ : Nat)
/-- where abstract blocks lie; priv: further blocks that nothing may touch or lean on -/
structure Env where
  loc : Nat → Loc
  priv : Nat → Prop
instance : CoeFun Env (fun _ => Nat → Loc) := ⟨Env.loc⟩
def Loc.ok (l : Loc) (p : Nat → Nat → Prop) : Prop :=
  match l with
  | .live b δ => p b δ
  | .gone => True
  | .unborn => False
def Lv (φ : Env) (b : Nat) : Prop := ∃ β δ, φ β = .live b δ
def Im (φ : Env) (b : Nat) : Prop := Lv φ b ∨ φ.priv b

mutual
def VRel (φ : Env) (w : World) : AV → Value → Prop
  | .bool b, v => v = .bool b
  | .int k n, v => v = .int k n
  | .str s, v => v = .string s
  | .nilptr, v => v = .pointer none
  | .ptr β o, v => ∃ a, v = .pointer (some a) ∧ ((φ β).ok fun b δ => a = ⟨b, δ + o, none⟩) ∧ a.spot = none
  | .iptr cs, v => ∃ b o, v = .pointer (some ⟨b, o, none⟩) ∧ CRel φ w b o cs
  | .slice β o len cap es, v => ∃ a c, v = .slice (some a) len c ∧ ((φ β).ok fun b δ => 0 < c → a = ⟨b, δ + o, none⟩) ∧ len ≤ c ∧ (∀ c0, cap = some c0 → c = c0) ∧
      (cap = none → (φ β).ok fun b δ => 0 < c → ∃ t n, w.shape? b = some (t, n) ∧ δ + o + c * es ≤ n) ∧ a.spot = none
  | .vec nl len cap cs, v => ∃ a c, v = .slice a len c ∧ len ≤ c ∧ (∀ c0, cap = some c0 → c = c0) ∧
      ((nl = true → a = none ∧ len = 0 ∧ c = 0) ∧ (nl = false → ∃ a', a = some a' ∧ (0 < c → ∃ b o, a' = ⟨b, o, none⟩ ∧ CRel φ w b o cs)))
  | .nilmap, v => v = .map none
  | .map β, v => ∃ r, v = .map (some r) ∧ (φ β).ok fun b δ => r = b ∧ δ = 0
  | .func fn first cap, v => ∃ vs ws : Array Value, v = .func fn vs ws ∧ VRels φ w first vs.toList ∧ VRels φ w cap ws.toList
  | .nilFunc, v => v = .nilFunc
  | .iface t x, v => ∃ y, v = .iface t y ∧ VRel φ w x y
  | .nilIface, v => v = .nilIface
  | .agg cs, v => ∃ vs : Array Value, v = .agg vs ∧ VRels φ w cs vs.toList
  | .tuple cs, v => ∃ vs : Array Value, v = .tuple vs ∧ VRels φ w cs vs.toList
def VRels (φ : Env) (w : World) : List AV → List Value → Prop
  | [], vs => vs = []
  | c :: cs, vs => ∃ v vs', vs = v :: vs' ∧ VRel φ w c v ∧ VRels φ w cs vs'
def CRel (φ : Env) (w : World) (b : Nat) : Nat → List AV → Prop
  | _, [] => True
  | o, c :: cs => ∃ v, w.cell? ⟨b, o, none⟩ = some v ∧ ¬ Im φ b ∧ c.sc = true ∧ VRel φ w c v ∧ CRel φ w b (o + 1) cs
end

/-- what values need to stay related -/
structure Ext0 (φ : Env) (w : World) (φ' : Env) (w' : World) : Prop where
  mono : ∀ β, φ β ≠ .unborn → φ' β = φ β ∨ φ' β = .gone
  keep : ∀ b, b < w.heap.size → ¬ Lv φ b → w'.heap[b]? = w.heap[b]?
  im : ∀ b, Im φ' b → Im φ b ∨ w.heap.size ≤ b
  shape : ∀ b s, w.shape? b = some s → w'.shape? b = some s
structure Ext (φ : Env) (w : World) (φ' : Env) (w' : World) : Prop where
  mono : ∀ β, φ β ≠ .unborn → φ' β = φ β ∨ φ' β = .gone
  keep : ∀ b, b < w.heap.size → ¬ Lv φ b → w'.heap[b]? = w.heap[b]?
  lv : ∀ b, Lv φ' b → Lv φ b ∨ w.heap.size ≤ b
  shape : ∀ b s, w.shape? b = some s → w'.shape? b = some s
  size : w.heap.size ≤ w'.heap.size
  priv : φ'.priv = φ.priv
  os : w'.os = w.os
  tape : w'.tape = w.tape
  output : w'.output = w.output
theorem Ext.to0 {φ φ' : Env} {w w' : World} (h : Ext φ w φ' w') : Ext0 φ w φ' w' :=
  ⟨h.mono, h.keep, fun b x => by
    rcases x with x | x
    · rcases h.lv b x with y | y
      · exact .inl (.inl y)
      · exact .inr y
    · rw [h.priv] at x; exact .inl (.inr x), h.shape⟩

theorem Ext.refl (φ : Env) (w : World) : Ext φ w φ w := ⟨fun _ _ => .inl rfl, fun _ _ _ => rfl, fun _ h => .inl h, fun _ _ h => h, Nat.le_refl _, rfl, rfl, rfl, rfl⟩
theorem Ext.trans {φ φ₁ φ₂ : Env} {w w₁ w₂ : World} (h : Ext φ w φ₁ w₁) (k : Ext φ₁ w₁ φ₂ w₂) : Ext φ w φ₂ w₂ where
  mono β hb := by
    rcases h.mono β hb with e | e
    · rcases k.mono β (e ▸ hb) with e' | e'
      · exact .inl (e'.trans e)
      · exact .inr e'
    · rcases k.mono β (by rw [e]; simp) with e' | e'
      · exact .inr (e'.trans e)
      · exact .inr e'
  keep b hb hi := by
    have h1 : ¬ Lv φ₁ b := fun x => (h.lv b x).elim hi (fun y => by omega)
    rw [k.keep b (Nat.lt_of_lt_of_le hb h.size) h1, h.keep b hb hi]
  lv b x := by
    rcases k.lv b x with y | y
    · exact h.lv b y
    · exact .inr (Nat.le_trans h.size y)
  size := Nat.le_trans h.size k.size
  shape b s hs := k.shape b s (h.shape b s hs)
  priv := k.priv.trans h.priv
  os := k.os.trans h.os
  tape := k.tape.trans h.tape
  output := k.output.trans h.output

theorem cell?_lt {w : World} {b o : Nat} {v : Value} (h : w.cell? ⟨b, o, none⟩ = some v) : b < w.heap.size := by
  rcases Nat.lt_or_ge b w.heap.size with hlt | hge
  · exact hlt
  · simp [World.cell?, Array.getElem?_eq_none hge] at h
theorem cell?_eq {w w' : World} {b o : Nat} (h : w'.heap[b]? = w.heap[b]?) : w'.cell? ⟨b, o, none⟩ = w.cell? ⟨b, o, none⟩ := by
  simp [World.cell?, h]

theorem Loc.ok.ext {φ φ' : Env} {w w' : World} (h : Ext0 φ w φ' w') {β : Nat} {p : Nat → Nat → Prop} (x : (φ β).ok p) : (φ' β).ok p := by
  cases e : φ β with
  | unborn => rw [e] at x; exact x.elim
  | gone =>
    rcases h.mono β (by simp [e]) with e' | e' <;> rw [e']
    · rw [e]; trivial
    · trivial
  | live b δ =>
    rcases h.mono β (by simp [e]) with e' | e' <;> rw [e']
    · exact x
    · trivial

theorem Loc.ok.imp {l : Loc} {p q : Nat → Nat → Prop} (h : l.ok p) (k : ∀ b δ, p b δ → q b δ) : l.ok q := by
  cases l with
  | unborn => exact h.elim
  | gone => trivial
  | live b δ => exact k _ _ h

mutual
theorem VRel.ext0 {φ φ' : Env} {w w' : World} (h : Ext0 φ w φ' w') : ∀ (a : AV) (v : Value), VRel φ w a v → VRel φ' w' a v
  | .bool _, _, x => x
  | .int _ _, _, x => x
  | .str _, _, x => x
  | .nilptr, _, x => x
  | .ptr _ _, _, ⟨a, e, x, sp⟩ => ⟨a, e, x.ext h, sp⟩
  | .iptr cs, _, ⟨b, o, e, x⟩ => ⟨b, o, e, CRel.ext0 h b o cs x⟩
  | .slice _ _ _ _ _, _, ⟨a, c, e, x, r, q, z, sp⟩ => ⟨a, c, e, x.ext h, r, q, fun hn => (z hn |>.ext h).imp fun _ _ y hc => by obtain ⟨t, n, e1, e2⟩ := y hc; exact ⟨t, n, h.shape _ _ e1, e2⟩, sp⟩
  | .vec _ _ _ cs, _, ⟨a, c, e, l, r, x, y⟩ => ⟨a, c, e, l, r, x, fun hn => by obtain ⟨a', e', z'⟩ := y hn; exact ⟨a', e', fun hc => by obtain ⟨b, o, e, z⟩ := z' hc; exact ⟨b, o, e, CRel.ext0 h b o cs z⟩⟩⟩
  | .nilmap, _, x => x
  | .map _, _, ⟨r, e, x⟩ => ⟨r, e, x.ext h⟩
  | .func _ first cap, _, ⟨vs, ws, e, x, y⟩ => ⟨vs, ws, e, VRels.ext0 h first _ x, VRels.ext0 h cap _ y⟩
  | .nilFunc, _, x => x
  | .iface _ v, _, ⟨y, e, x⟩ => ⟨y, e, VRel.ext0 h v y x⟩
  | .nilIface, _, x => x
  | .agg cs, _, ⟨vs, e, x⟩ => ⟨vs, e, VRels.ext0 h cs _ x⟩
  | .tuple cs, _, ⟨vs, e, x⟩ => ⟨vs, e, VRels.ext0 h cs _ x⟩
theorem VRels.ext0 {φ φ' : Env} {w w' : World} (h : Ext0 φ w φ' w') : ∀ (a : List AV) (v : List Value), VRels φ w a v → VRels φ' w' a v
  | [], _, x => x
  | c :: cs, _, ⟨y, ys, e, a, b⟩ => ⟨y, ys, e, VRel.ext0 h c y a, VRels.ext0 h cs ys b⟩
theorem CRel.ext0 {φ φ' : Env} {w w' : World} (h : Ext0 φ w φ' w') (b : Nat) : ∀ (o : Nat) (a : List AV), CRel φ w b o a → CRel φ' w' b o a
  | _, [], x => x
  | o, c :: cs, ⟨y, e, n, s, a, r⟩ =>
    ⟨y, by rw [cell?_eq (h.keep b (cell?_lt e) (fun x => n (.inl x)))]; exact e, fun x => (h.im b x).elim n (fun z => by have := cell?_lt e; omega),
      s, VRel.ext0 h c y a, CRel.ext0 h b (o + 1) cs r⟩
end

theorem VRel.ext {φ φ' : Env} {w w' : World} (h : Ext φ w φ' w') (a : AV) (v : Value) (x : VRel φ w a v) : VRel φ' w' a v := VRel.ext0 h.to0 a v x
theorem VRels.ext {φ φ' : Env} {w w' : World} (h : Ext φ w φ' w') (a : List AV) (v : List Value) (x : VRels φ w a v) : VRels φ' w' a v := VRels.ext0 h.to0 a v x
theorem CRel.ext {φ φ' : Env} {w w' : World} (h : Ext φ w φ' w') (b o : Nat) (a : List AV) (x : CRel φ w b o a) : CRel φ' w' b o a := CRel.ext0 h.to0 b o a x

/-! ## abstract memory -/
inductive ABlk where
  | cells (cs : List AV)
  | map (es : List (AV × AV))
  | siter (s : ByteArray) (pos : Nat)

structure AH where
  t : Trie (Option ABlk)
  next : Nat
namespace AH
def empty : AH := ⟨.nil, 0⟩
/-- the block's state: not born yet, given up, or what it holds -/
def st (A : AH) (β : Nat) : Option (Option ABlk) := A.t.get β
def get (A : AH) (β : Nat) : Option ABlk := match A.t.get β with | some (some B) => some B | _ => none
def alloc (A : AH) (b : ABlk) : AH := ⟨A.t.set A.next (some (some b)), A.next + 1⟩
def reserve (A : AH) : AH := ⟨A.t, A.next + 1⟩
def put (A : AH) (β : Nat) (b : ABlk) : AH := ⟨A.t.set β (some (some b)), A.next⟩
def kill (A : AH) (β : Nat) : AH := ⟨A.t.set β (some none), A.next⟩
theorem st_alloc (A : AH) (b : ABlk) (β : Nat) : (A.alloc b).st β = if β = A.next then some (some b) else A.st β := Trie.get_set _ _ _ _
theorem st_put (A : AH) (γ : Nat) (b : ABlk) (β : Nat) : (A.put γ b).st β = if β = γ then some (some b) else A.st β := Trie.get_set _ _ _ _
theorem st_kill (A : AH) (γ : Nat) (β : Nat) : (A.kill γ).st β = if β = γ then some none else A.st β := Trie.get_set _ _ _ _
theorem get_def (A : AH) (β : Nat) : A.get β = match A.st β with | some (some B) => some B | _ => none := rfl
theorem get_eq {A : AH} {β : Nat} {B : ABlk} : A.get β = some B ↔ A.st β = some (some B) := by
  rw [get_def]
  cases A.st β with
  | none => simp
  | some x => cases x <;> simp
theorem get_alloc (A : AH) (b : ABlk) (β : Nat) : (A.alloc b).get β = if β = A.next then some b else A.get β := by
  rw [get_def, st_alloc]; by_cases e : β = A.next <;> simp only [e, if_true, if_false] <;> rfl
theorem get_put (A : AH) (γ : Nat) (b : ABlk) (β : Nat) : (A.put γ b).get β = if β = γ then some b else A.get β := by
  rw [get_def, st_put]; by_cases e : β = γ <;> simp only [e, if_true, if_false] <;> rfl
theorem get_kill (A : AH) (γ : Nat) (β : Nat) : (A.kill γ).get β = if β = γ then none else A.get β := by
  rw [get_def, st_kill]; by_cases e : β = γ <;> simp only [e, if_true, if_false] <;> rfl
end AH

def ERel (φ : Env) (w : World) : List (AV × AV) → List MapEntry → Prop
  | [], es => es = []
  | (k, v) :: l, es => ∃ e es', es = e :: es' ∧ VRel φ w k e.key ∧ VRel φ w v e.val ∧ ERel φ w l es'

def BRel (φ : Env) (w : World) : ABlk → Nat → Nat → Prop
  | .cells cs, b, δ => ∃ c t fr, w.heap[b]? = some (.cells c t fr) ∧ (∀ i, i < c.size → ¬ (fr.1 ≤ i ∧ i < fr.2)) ∧ δ + cs.length ≤ c.size ∧
      ∀ i v, cs[i]? = some v → ∃ x, c[δ + i]? = some x ∧ v.sc = true ∧ VRel φ w v x
  | .map es, b, δ => δ = 0 ∧ ∃ (ces : Array MapEntry) (clock : Nat), w.heap[b]? = some (.map ces clock) ∧ ERel φ w es ces.toList ∧
      ces.toList.Pairwise (fun x y => x.born < y.born) ∧ ∀ e ∈ ces.toList, e.born < clock
  | .siter s pos, b, δ => δ = 0 ∧ w.heap[b]? = some (.stringIter s pos)

structure HRel (φ : Env) (A : AH) (w : World) : Prop where
  born : ∀ β, φ β = .unborn ↔ A.st β = none
  fresh : ∀ β, A.next ≤ β → A.st β = none
  blk : ∀ β B, A.get β = some B → ∃ b δ, φ β = .live b δ ∧ BRel φ w B b δ
  live : ∀ β b δ, φ β = .live b δ → ∃ B, A.get β = some B
  inj : ∀ β γ b δ δ', φ β = .live b δ → φ γ = .live b δ' → β = γ
  prv : ∀ b, φ.priv b → b < w.heap.size
  dis : ∀ b, φ.priv b → ¬ Lv φ b

theorem BRel.lt {φ : Env} {w : World} {B : ABlk} {b δ : Nat} (h : BRel φ w B b δ) : b < w.heap.size := by
  rcases Nat.lt_or_ge b w.heap.size with hlt | hge
  · exact hlt
  · cases B with
    | cells cs => obtain ⟨c, t, fr, e, _⟩ := h; simp [Array.getElem?_eq_none hge] at e
    | map es => obtain ⟨_, c, k, e, _⟩ := h; simp [Array.getElem?_eq_none hge] at e
    | siter s p => obtain ⟨_, e⟩ := h; simp [Array.getElem?_eq_none hge] at e

theorem ERel.ext0 {φ φ' : Env} {w w' : World} (h : Ext0 φ w φ' w') : ∀ (l : List (AV × AV)) (es : List MapEntry), ERel φ w l es → ERel φ' w' l es
  | [], _, x => x
  | (k, v) :: l, _, ⟨e, es', he, a, b, c⟩ => ⟨e, es', he, VRel.ext0 h k _ a, VRel.ext0 h v _ b, ERel.ext0 h l es' c⟩
theorem ERel.ext {φ φ' : Env} {w w' : World} (h : Ext φ w φ' w') (l : List (AV × AV)) (es : List MapEntry) (x : ERel φ w l es) : ERel φ' w' l es := ERel.ext0 h.to0 l es x

/-- a block that is left alone stays related -/
theorem BRel.ext0 {φ φ' : Env} {w w' : World} (h : Ext0 φ w φ' w') {B : ABlk} {b δ : Nat} (x : BRel φ w B b δ) (hb : w'.heap[b]? = w.heap[b]?) : BRel φ' w' B b δ := by
  cases B with
  | cells cs =>
    obtain ⟨c, t, fr, e, f, l, r⟩ := x
    refine ⟨c, t, fr, hb.trans e, f, l, fun i v hv => ?_⟩
    obtain ⟨y, a, s, q⟩ := r i v hv
    exact ⟨y, a, s, VRel.ext0 h v y q⟩
  | map es =>
    obtain ⟨d, ces, k, e, r, p⟩ := x
    exact ⟨d, ces, k, hb.trans e, ERel.ext0 h es _ r, p⟩
  | siter s p => exact ⟨x.1, hb.trans x.2⟩
theorem BRel.ext {φ φ' : Env} {w w' : World} (h : Ext φ w φ' w') {B : ABlk} {b δ : Nat} (x : BRel φ w B b δ) (hb : w'.heap[b]? = w.heap[b]?) : BRel φ' w' B b δ := x.ext0 h.to0 hb
theorem HRel.unb {φ : Env} {A : AH} {w : World} (h : HRel φ A w) : φ A.next = .unborn := (h.born _).2 (h.fresh _ (Nat.le_refl _))
theorem HRel.lt {φ : Env} {A : AH} {w : World} (h : HRel φ A w) {β b δ : Nat} (e : φ β = .live b δ) : β < A.next := by
  rcases Nat.lt_or_ge β A.next with x | x
  · exact x
  · have := (h.born β).2 (h.fresh β x); rw [e] at this; cases this
end Go.Am

namespace Go.Am
open Go

def omap {α β : Type} (f : α → Option β) : List α → Option (List β)
  | [] => some []
  | x :: xs => match f x, omap f xs with
    | some y, some ys => some (y :: ys)
    | _, _ => none

section
variable {φ : Env} {w : World}

theorem VRels.length : ∀ {cs : List AV} {vs : List Value}, VRels φ w cs vs → vs.length = cs.length
  | [], _, h => by rw [show _ = [] from h]; rfl
  | _ :: _, _, ⟨_, _, e, _, h⟩ => by subst e; simp [VRels.length h]
theorem VRels.append : ∀ {cs : List AV} {vs : List Value} {ds : List AV} {us : List Value}, VRels φ w cs vs → VRels φ w ds us → VRels φ w (cs ++ ds) (vs ++ us)
  | [], _, _, _, h, k => by rw [show _ = [] from h]; exact k
  | _ :: _, _, _, _, ⟨v, vs', e, a, h⟩, k => by subst e; exact ⟨v, vs' ++ _, rfl, a, VRels.append h k⟩
theorem VRels.take : ∀ (n : Nat) {cs : List AV} {vs : List Value}, VRels φ w cs vs → VRels φ w (cs.take n) (vs.take n)
  | 0, _, _, _ => by simp [VRels]
  | _ + 1, [], _, h => by rw [show _ = [] from h]; simp [VRels]
  | n + 1, _ :: _, _, ⟨v, vs', e, a, h⟩ => by subst e; exact ⟨v, _, rfl, a, VRels.take n h⟩
theorem VRels.drop : ∀ (n : Nat) {cs : List AV} {vs : List Value}, VRels φ w cs vs → VRels φ w (cs.drop n) (vs.drop n)
  | 0, _, _, h => h
  | _ + 1, [], _, h => by rw [show _ = [] from h]; simp [VRels]
  | n + 1, _ :: _, _, ⟨_, _, e, _, h⟩ => by subst e; exact VRels.drop n h
theorem VRels.get : ∀ {cs : List AV} {vs : List Value} {i : Nat} {c : AV}, VRels φ w cs vs → cs[i]? = some c → ∃ v, vs[i]? = some v ∧ VRel φ w c v
  | [], _, _, _, _, h => by simp at h
  | _ :: _, _, 0, _, ⟨v, _, e, a, _⟩, h => by subst e; simp at h; subst h; exact ⟨v, rfl, a⟩
  | _ :: _, _, i + 1, _, ⟨_, _, e, _, k⟩, h => by subst e; simp at h; obtain ⟨v, x, y⟩ := VRels.get k h; exact ⟨v, by simpa using x, y⟩
theorem VRels.mk {cs : List AV} {vs : List Value} (hl : vs.length = cs.length) (h : ∀ (i : Nat) (c : AV), cs[i]? = some c → ∃ v, vs[i]? = some v ∧ VRel φ w c v) : VRels φ w cs vs := by
  induction cs generalizing vs with
  | nil => exact List.length_eq_zero_iff.1 hl
  | cons c cs ih =>
    cases vs with
    | nil => simp at hl
    | cons v vs =>
      refine ⟨v, vs, rfl, ?_, ih (by simpa using hl) fun i c hc => ?_⟩
      · obtain ⟨u, a, b⟩ := h 0 c rfl; simp at a; subst a; exact b
      · obtain ⟨u, a, b⟩ := h (i + 1) c (by simpa using hc); exact ⟨u, by simpa using a, b⟩
theorem VRels.single {c : AV} {v : Value} (h : VRel φ w c v) : VRels φ w [c] [v] := ⟨v, [], rfl, h, rfl⟩

/-- cells of memory that hold the listed values -/
def CellsAt (φ : Env) (w : World) (b o : Nat) (l : List AV) : Prop :=
  ∀ i v, l[i]? = some v → ∃ x, w.cell? ⟨b, o + i, none⟩ = some x ∧ v.sc = true ∧ VRel φ w v x
theorem CellsAt.drop {b o : Nat} {l : List AV} (h : CellsAt φ w b o l) (n : Nat) : CellsAt φ w b (o + n) (l.drop n) := fun i v hv => by
  rw [List.getElem?_drop] at hv
  obtain ⟨x, a, b⟩ := h _ _ hv
  exact ⟨x, by rw [Nat.add_assoc]; exact a, b⟩
theorem CellsAt.take {b o : Nat} {l : List AV} (h : CellsAt φ w b o l) (n : Nat) : CellsAt φ w b o (l.take n) := fun i v hv => by
  rw [List.getElem?_take] at hv
  split at hv
  · exact h _ _ hv
  · simp at hv
theorem CRel.cells {b : Nat} : ∀ {o : Nat} {l : List AV}, CRel φ w b o l → CellsAt φ w b o l
  | _, [], _, i, v, hv => by simp at hv
  | o, c :: cs, ⟨x, e, _, s, r, k⟩, 0, v, hv => by simp at hv; subst hv; exact ⟨x, e, s, r⟩
  | o, c :: cs, ⟨x, e, _, s, r, k⟩, i + 1, v, hv => by
    obtain ⟨y, p, q⟩ := CRel.cells k i v (by simpa using hv)
    exact ⟨y, by rw [← p]; congr 2; omega, q⟩
theorem CRel.drop {b : Nat} : ∀ {o : Nat} {l : List AV} (n : Nat), CRel φ w b o l → CRel φ w b (o + n) (l.drop n)
  | _, _, 0, h => h
  | _, [], _ + 1, _ => trivial
  | o, _ :: _, n + 1, ⟨_, _, _, _, _, k⟩ => by
    have := CRel.drop n k
    rw [show o + (n + 1) = o + 1 + n by omega]; exact this
theorem CRel.take {b : Nat} : ∀ {o : Nat} {l : List AV} (n : Nat), CRel φ w b o l → CRel φ w b o (l.take n)
  | _, _, 0, _ => by simp [CRel]
  | _, [], _ + 1, _ => trivial
  | o, _ :: _, n + 1, ⟨x, e, m, s, r, k⟩ => ⟨x, e, m, s, r, CRel.take n k⟩
theorem BRel.cells {cs : List AV} {b δ : Nat} (h : BRel φ w (.cells cs) b δ) : CellsAt φ w b δ cs := fun i v hv => by
  obtain ⟨c, t, fr, e, _, _, r⟩ := h
  obtain ⟨x, a, s, q⟩ := r i v hv
  exact ⟨x, by simp [World.cell?, e, a], s, q⟩

theorem add_zero' (a : Addr) : a.add 0 = a := by simp [Addr.add]
theorem add_at (b o n : Nat) : (Addr.mk b o none).add n = ⟨b, o + n, none⟩ := by
  unfold Addr.add; split
  · rename_i h; simp [h]
  · rfl

theorem run_loadCells_at (P : Program) {b o : Nat} {l : List AV} (h : CellsAt φ w b o l) :
    ∃ vs : Array Value, (loadCells ⟨b, o, none⟩ l.length).run P w = .ok vs w ∧ VRels φ w l vs.toList ∧ ∀ x ∈ vs.toList, ∃ j, w.cell? ⟨b, o + j, none⟩ = some x := by
  let f : Nat → Value := fun i => (w.cell? ⟨b, o + i, none⟩).getD undef
  have hf : ∀ j, j < l.length → w.cell? ((Addr.mk b o none).add j) = some (f j) := fun j hj => by
    obtain ⟨x, e, _⟩ := h j l[j] (List.getElem?_eq_getElem hj)
    simp [add_at, f, e]
  refine ⟨_, run_loadCells w _ _ f hf, VRels.mk (by simp) fun i c hc => ?_, fun x hx => ?_⟩
  · obtain ⟨x, e, _, r⟩ := h i c hc
    have hi : i < l.length := by
      rcases Nat.lt_or_ge i l.length with a | a
      · exact a
      · simp [List.getElem?_eq_none a] at hc
    exact ⟨x, by simp [hi, f, e], r⟩
  · simp at hx
    obtain ⟨j, hj, e⟩ := hx
    obtain ⟨y, e', _⟩ := h j l[j] (List.getElem?_eq_getElem hj)
    exact ⟨j, by rw [e', ← e]; simp [f, e']⟩
end

/-! ## constants -/
def ofSc : Value → Option AV
  | .bool b => some (.bool b)
  | .int k n => some (.int k n)
  | .string s => some (.str s)
  | .pointer none => some .nilptr
  | .slice none 0 0 => some (.vec true 0 (some 0) [])
  | .map none => some .nilmap
  | .nilFunc => some .nilFunc
  | .nilIface => some .nilIface
  | .func (.func f) fs cs => if fs.size = 0 ∧ cs.size = 0 then some (.func (.func f) [] []) else none
  | _ => none
def ofValue : Value → Option AV
  | .agg cs => (omap ofSc cs.toList).map .agg
  | .tuple cs => (omap ofSc cs.toList).map .tuple
  | v => ofSc v
theorem ofSc_rel {φ : Env} {w : World} {v : Value} {a : AV} (h : ofSc v = some a) : VRel φ w a v ∧ a.sc = true ∧ v.oneCell' = true := by
  unfold ofSc at h
  split at h
  case h_5 => cases h; exact ⟨⟨none, 0, rfl, Nat.le_refl _, fun c0 hc => by cases hc; rfl, fun _ => ⟨rfl, rfl, rfl⟩, fun hn => by cases hn⟩, rfl, rfl⟩
  case h_9 f fs cs =>
    split at h
    · rename_i hh
      cases h
      have e1 := Array.eq_empty_of_size_eq_zero hh.1
      have e2 := Array.eq_empty_of_size_eq_zero hh.2
      subst e1; subst e2
      exact ⟨⟨#[], #[], rfl, rfl, rfl⟩, rfl, rfl⟩
    · cases h
  all_goals cases h
  all_goals exact ⟨rfl, rfl, rfl⟩
theorem omap_rel {φ : Env} {w : World} : ∀ {l : List Value} {cs : List AV}, omap ofSc l = some cs → VRels φ w cs l ∧ (∀ c ∈ cs, c.sc = true) ∧ ∀ v ∈ l, v.oneCell' = true
  | [], cs, h => by simp [omap] at h; subst h; exact ⟨rfl, by simp, by simp⟩
  | v :: l, cs, h => by
    simp only [omap] at h
    split at h
    · rename_i y ys e1 e2
      simp at h; subst h
      obtain ⟨a, s, o⟩ := ofSc_rel (φ := φ) (w := w) e1
      obtain ⟨r, t, u⟩ := omap_rel (φ := φ) (w := w) e2
      exact ⟨⟨v, l, rfl, a, r⟩, by simp; exact ⟨s, t⟩, by simp; exact ⟨o, u⟩⟩
    · simp at h
theorem ofValue_rel {φ : Env} {w : World} {v : Value} {a : AV} (h : ofValue v = some a) : VRel φ w a v := by
  unfold ofValue at h
  split at h
  · rename_i cs
    simp at h; obtain ⟨l, e, rfl⟩ := h
    exact ⟨cs, rfl, (omap_rel e).1⟩
  · rename_i cs
    simp at h; obtain ⟨l, e, rfl⟩ := h
    exact ⟨cs, rfl, (omap_rel e).1⟩
  · exact (ofSc_rel h).1
theorem VRel.one {φ : Env} {w : World} {a : AV} {v : Value} (h : VRel φ w a v) (hs : a.sc = true) : v.oneCell' = true := by
  cases a <;> simp [AV.sc] at hs <;> simp only [VRel] at h
  all_goals first
    | (subst h; rfl)
    | (obtain ⟨_, rfl, _⟩ := h; rfl)
    | (obtain ⟨_, _, rfl, _⟩ := h; rfl)
end Go.Am

namespace Go.Am
open Go

structure TyI where
  desc : TypeDesc
  size : Nat
  bytes : Nat
  zero : List AV
  plainEq : Bool
  deriving Inhabited
def TyI.isAgg (i : TyI) : Bool := match i.desc with | .struct _ | .array _ _ => true | _ => false

/-- the tables that the evaluator reads -/
structure Cx where
  P : Program
  T : Nat → Option TyI
  G : Nat → Option (List AV)

def kindB : Value → Nat
  | .agg _ => 1
  | .tuple _ => 2
  | _ => 0
structure TyOk (P : Program) (t : TypeId) (i : TyI) : Prop where
  und : P.underlying t = some i.desc
  info : ∃ inf z, P.info? t = some inf ∧ inf.size = i.size ∧ inf.bytes = i.bytes ∧ inf.zero = some z ∧ omap ofSc z.cells.toList = some i.zero ∧ kindB z = if i.isAgg then 1 else 0
  eqg : i.plainEq = true → P.eqGuardType P.depth t = false ∧ P.stoodInHeld t = false

structure Cx.Ok (C : Cx) : Prop where
  ty : ∀ t i, C.T t = some i → TyOk C.P t i
  mixed : C.P.follows .mixedOrders = true

section
variable {C : Cx} {φ : Env} {w : World}

theorem run_und (hC : C.Ok) {t : TypeId} {i : TyI} (h : C.T t = some i) (w : World) : (underlying t).run C.P w = .ok i.desc w := by
  simp [underlying, (hC.ty t i h).und]
theorem run_size (hC : C.Ok) {t : TypeId} {i : TyI} (h : C.T t = some i) (w : World) : (sizeOf t).run C.P w = .ok i.size w := by
  obtain ⟨inf, z, a, b, c, d, e, _⟩ := (hC.ty t i h).info
  simp [sizeOf, typeInfo, a, b]
theorem run_bytes (hC : C.Ok) {t : TypeId} {i : TyI} (h : C.T t = some i) (w : World) : ∃ inf, (typeInfo t).run C.P w = .ok inf w ∧ inf.bytes = i.bytes ∧ inf.size = i.size := by
  obtain ⟨inf, z, a, b, c, d, e, _⟩ := (hC.ty t i h).info
  exact ⟨inf, by simp [typeInfo, a], c, b⟩
theorem run_zero (hC : C.Ok) {t : TypeId} {i : TyI} (h : C.T t = some i) (w : World) : ∃ z, (zeroValue t).run C.P w = .ok z w ∧ omap ofSc z.cells.toList = some i.zero := by
  obtain ⟨inf, z, a, b, c, d, e, _⟩ := (hC.ty t i h).info
  exact ⟨z, by simp [zeroValue, typeInfo, a, d], e⟩
theorem run_isAgg (hC : C.Ok) {t : TypeId} {i : TyI} (h : C.T t = some i) (w : World) : (isAgg t).run C.P w = .ok i.isAgg w := by
  simp only [isAgg, Sem.run_bind, run_und hC h, Result.andThen]
  unfold TyI.isAgg
  generalize i.desc = d
  cases d <;> rfl

/-- the part of type t that begins at cell off -/
def partA (C : Cx) (t : TypeId) (cs : List AV) (off : Nat) : Option AV :=
  (C.T t).bind fun i =>
    if i.isAgg then (if ((cs.drop off).take i.size).length = i.size then some (.agg ((cs.drop off).take i.size)) else none) else cs[off]?

theorem part_sound (hC : C.Ok) {t : TypeId} {cs : List AV} {off : Nat} {v : AV} {vs : Array Value} (h : partA C t cs off = some v) (hr : VRels φ w cs vs.toList) :
    ∃ x, (part t vs off).run C.P w = .ok x w ∧ VRel φ w v x := by
  obtain ⟨i, hi, h⟩ := Option.bind_eq_some_iff.1 h
  simp only [part, Sem.run_bind, run_isAgg hC hi, Result.andThen]
  split at h
  · rename_i ha
    rw [if_pos ha]
    split at h
    · simp at h; subst h
      refine ⟨.agg (vs.extract off (off + i.size)), by simp [run_size hC hi, Result.andThen], _, rfl, ?_⟩
      have := (hr.drop off).take i.size
      rw [Array.toList_extract]
      simpa [List.extract] using this
    · simp at h
  · rename_i ha
    rw [if_neg ha]
    obtain ⟨x, hx, hv⟩ := hr.get h
    have hx' : vs[off]? = some x := by rw [← Array.getElem?_toList]; exact hx
    exact ⟨x, by simp [hx'], hv⟩

theorem loadVar_sound (hC : C.Ok) {t : TypeId} {cs : List AV} {off b o : Nat} {v : AV} (h : partA C t cs off = some v) (hr : CellsAt φ w b o cs) :
    ∃ x, (loadVar t ⟨b, o + off, none⟩).run C.P w = .ok x w ∧ VRel φ w v x := by
  obtain ⟨i, hi, h⟩ := Option.bind_eq_some_iff.1 h
  simp only [loadVar, Sem.run_bind, run_isAgg hC hi, Result.andThen]
  split at h
  · rename_i ha
    rw [if_pos ha]
    split at h
    · rename_i hl
      simp at h; subst h
      obtain ⟨vs, e, r, _⟩ := run_loadCells_at C.P ((hr.drop off).take i.size)
      rw [hl] at e
      exact ⟨.agg vs, by simp [run_size hC hi, Result.andThen, e], vs, rfl, r⟩
    · simp at h
  · rename_i ha
    rw [if_neg ha]
    obtain ⟨x, hx, _, hv⟩ := hr off v h
    exact ⟨x, by simp [hx], hv⟩

/-! ## arithmetic -/
def aInt (op : BinOp) (k : IntKind) (a b : Int) : Option AV :=
  match op with
  | .add => some (.int k (k.wrap (a + b)))
  | .sub => some (.int k (k.wrap (a - b)))
  | .mul => some (.int k (k.wrap (a * b)))
  | .quo => if b = 0 then none else some (.int k (k.wrap (a.tdiv b)))
  | .rem => if b = 0 then none else some (.int k (a.tmod b))
  | .and => some (.int k (k.wrap (BitVec.ofInt k.bits a &&& BitVec.ofInt k.bits b).toNat))
  | .or => some (.int k (k.wrap (BitVec.ofInt k.bits a ||| BitVec.ofInt k.bits b).toNat))
  | .xor => some (.int k (k.wrap (BitVec.ofInt k.bits a ^^^ BitVec.ofInt k.bits b).toNat))
  | .andNot => some (.int k (k.wrap (BitVec.ofInt k.bits a &&& ~~~ BitVec.ofInt k.bits b).toNat))
  | .eql => some (.bool (a == b))
  | .neq => some (.bool (a != b))
  | .lss => some (.bool (decide (a < b)))
  | .leq => some (.bool (decide (a ≤ b)))
  | .gtr => some (.bool (decide (a > b)))
  | .geq => some (.bool (decide (a ≥ b)))
  | .shl | .shr => none
def aShift (op : BinOp) (k : IntKind) (a y : Int) : Option AV :=
  if y < 0 then none else
  match op with
  | .shl => some (.int k (k.wrap (a * 2 ^ min y.toNat k.bits)))
  | .shr => some (.int k (a.fdiv (2 ^ min y.toNat k.bits)))
  | _ => none
def aStr (op : BinOp) (x y : ByteArray) : Option AV :=
  match op with
  | .add => if x.size + y.size < 2 ^ 62 then some (.str (x ++ y)) else none
  | .eql => some (.bool (x.toList == y.toList))
  | .neq => some (.bool !(x.toList == y.toList))
  | .lss => some (.bool (Op.bytesLess x.toList y.toList))
  | .leq => some (.bool (Op.bytesLess x.toList y.toList || x.toList == y.toList))
  | .gtr => some (.bool !(Op.bytesLess x.toList y.toList || x.toList == y.toList))
  | .geq => some (.bool !(Op.bytesLess x.toList y.toList))
  | _ => none

/-- equality at a type, of plain values -/
def aEqual (C : Cx) : Nat → TypeId → AV → AV → Option Bool
  | 0, _, _, _ => none
  | d + 1, t, x, y => (C.T t).bind fun i =>
    match i.desc, x, y with
    | .bool, .bool a, .bool b => some (a == b)
    | .int _, .int k a, .int k' b => if k = k' then some (a == b) else none
    | .string, .str a, .str b => some (a == b)
    | .pointer _, .nilptr, .nilptr => some true
    | .pointer _, .nilptr, .ptr _ _ => some false
    | .pointer _, .ptr _ _, .nilptr => some false
    | .pointer _, .nilptr, .iptr _ => some false
    | .pointer _, .iptr _, .nilptr => some false
    | .slice _, .vec true _ _ _, .vec nl _ _ _ => some nl
    | .slice _, .vec true _ _ _, .slice _ _ _ _ _ => some false
    | .slice _, .vec nl _ _ _, .vec true _ _ _ => some nl
    | .slice _, .slice _ _ _ _ _, .vec true _ _ _ => some false
    | .map _ _, .nilmap, .nilmap => some true
    | .map _ _, .nilmap, .map _ => some false
    | .map _ _, .map _, .nilmap => some false
    | .func _ _ _, .nilFunc, .nilFunc => some true
    | .func _ _ _, .nilFunc, .func _ _ _ => some false
    | .func _ _ _, .func _ _ _, .nilFunc => some false
    | .struct fs, .agg xs, .agg ys => if i.plainEq then
        fs.toList.foldr (fun f r => if f.name ≠ "_" then
          (partA C f.type xs f.offset).bind fun a => (partA C f.type ys f.offset).bind fun b => (aEqual C d f.type a b).bind fun e => if e then r else some false
          else r) (some true) else none
    | .array n e, .agg xs, .agg ys => if i.plainEq then (C.T e).bind fun ei =>
        (List.range n).foldr (fun j r =>
          (partA C e xs (j * ei.size)).bind fun a => (partA C e ys (j * ei.size)).bind fun b => (aEqual C d e a b).bind fun q => if q then r else some false) (some true) else none
    | _, _, _ => none
end
end Go.Am

namespace Go.Am
open Go
section
variable {C : Cx} {φ : Env} {w : World}
theorem aInt_sound {op : BinOp} {k : IntKind} {a b : Int} {v : AV} (t : TypeId) (h : aInt op k a b = some v) :
    ∃ x, (binOp op t (.int k a) (.int k b)).run C.P w = .ok x w ∧ VRel φ w v x := by
  have hk : ¬ (k ≠ k) := by simp
  cases op <;> simp only [aInt, reduceCtorEq] at h
  case quo =>
    split at h
    · cases h
    · rename_i hb; cases h; exact ⟨_, by simp only [binOp, if_neg hk, Op.intDiv, if_neg hb]; rfl, rfl⟩
  case rem =>
    split at h
    · cases h
    · rename_i hb; cases h; exact ⟨_, by simp only [binOp, if_neg hk, Op.intDiv, if_neg hb]; rfl, rfl⟩
  all_goals (cases h; exact ⟨_, by simp only [binOp, if_neg hk]; rfl, rfl⟩)
theorem aShift_sound {op : BinOp} {k yk : IntKind} {a b : Int} {v : AV} (t : TypeId) (h : aShift op k a b = some v) :
    ∃ x, (binOp op t (.int k a) (.int yk b)).run C.P w = .ok x w ∧ VRel φ w v x := by
  unfold aShift at h
  split at h
  · cases h
  · rename_i hb
    cases op <;> simp only [reduceCtorEq] at h
    all_goals (cases h; exact ⟨_, by simp only [binOp, Op.shift, if_neg hb]; rfl, rfl⟩)
theorem aStr_sound {op : BinOp} {a b : ByteArray} {v : AV} (t : TypeId) (h : aStr op a b = some v) :
    ∃ x, (binOp op t (.string a) (.string b)).run C.P w = .ok x w ∧ VRel φ w v x := by
  cases op <;> simp only [aStr, reduceCtorEq] at h
  case add =>
    split at h
    · rename_i h1
      cases h
      have : ¬ (((a.size + b.size : Nat) : Int) > IntKind.i64.max) := by
        show ¬ (((a.size + b.size : Nat) : Int) > 9223372036854775807)
        omega
      exact ⟨_, by simp only [binOp, Op.stringOp, if_neg this]; rfl, rfl⟩
    · cases h
  all_goals (cases h; exact ⟨_, rfl, rfl⟩)

theorem run_forEq {α : Type} (P : Program) (g : α → Option Bool → Option Bool) (body : α → Option Bool × Unit → Sem (ForInStep (Option Bool × Unit)))
    (hb : ∀ a r b, g a r = some b → ∀ u, ((body a (none, u)).run P w = .ok (.yield (none, ())) w ∧ r = some b) ∨ ((body a (none, u)).run P w = .ok (.done (some false, ())) w ∧ b = false)) :
    ∀ (l : List α) (b : Bool), l.foldr g (some true) = some b →
      (forIn l ((none, ()) : Option Bool × Unit) body).run P w = .ok (if b then (none, ()) else (some false, ())) w
  | [], b, h => by simp at h; subst h; rfl
  | a :: l, b, h => by
    rw [List.forIn_cons]
    rcases hb a _ b (by simpa using h) () with ⟨e, hr⟩ | ⟨e, hr⟩
    · rw [Sem.run_bind, e]
      exact run_forEq P g body hb l b hr
    · rw [Sem.run_bind, e]
      subst hr; rfl
set_option maxHeartbeats 1000000 in
theorem aEqual_sound (hC : C.Ok) : ∀ (d : Nat) (t : TypeId) (a b : AV) (r : Bool) (x y : Value), aEqual C d t a b = some r → VRel φ w a x → VRel φ w b y →
    (Op.equalIn d t x y).run C.P w = .ok r w := by
  intro d
  induction d with
  | zero => intro t a b r x y h; simp [aEqual] at h
  | succ d ih =>
    intro t a b r x y h hx hy
    obtain ⟨i, hi, h1⟩ := Option.bind_eq_some_iff.1 h
    clear h
    revert h1
    intro h
    unfold Op.equalIn
    rw [Sem.run_bind, run_und hC hi]
    simp only [Result.andThen]
    generalize hd : i.desc = D at h
    split at h
    case h_1 => obtain rfl : x = _ := hx; obtain rfl : y = _ := hy; cases h; rfl
    case h_2 =>
      obtain rfl : x = _ := hx
      obtain rfl : y = _ := hy
      split at h
      · rename_i hk; cases h; simp only [if_pos hk]; rfl
      · cases h
    case h_3 => obtain rfl : x = _ := hx; obtain rfl : y = _ := hy; cases h; rfl
    case h_4 => obtain rfl : x = _ := hx; obtain rfl : y = _ := hy; cases h; rfl
    case h_5 => obtain rfl : x = _ := hx; obtain ⟨_, rfl, _⟩ := hy; cases h; rfl
    case h_6 => obtain ⟨_, rfl, _⟩ := hx; obtain rfl : y = _ := hy; cases h; rfl
    case h_7 => obtain rfl : x = _ := hx; obtain ⟨_, _, rfl, _⟩ := hy; cases h; rfl
    case h_8 => obtain ⟨_, _, rfl, _⟩ := hx; obtain rfl : y = _ := hy; cases h; rfl
    case h_9 nl _ _ _ =>
      obtain ⟨a, c, rfl, _, _, hn, _⟩ := hx
      obtain ⟨a', c', rfl, _, _, hn', hm'⟩ := hy
      obtain ⟨rfl, _, _⟩ := hn rfl
      cases nl <;> cases h
      · obtain ⟨b, rfl, _⟩ := hm' rfl; rfl
      · obtain ⟨rfl, _, _⟩ := hn' rfl; rfl
    case h_10 =>
      obtain ⟨a, c, rfl, _, _, hn, _⟩ := hx
      obtain ⟨rfl, _, _⟩ := hn rfl
      obtain ⟨_, _, rfl, _⟩ := hy
      cases h; rfl
    case h_11 nl _ _ _ _ _ _ _ =>
      obtain ⟨a, c, rfl, _, _, hn, hm⟩ := hx
      obtain ⟨a', c', rfl, _, _, hn', hm'⟩ := hy
      obtain ⟨rfl, _, _⟩ := hn' rfl
      cases nl <;> cases h
      · obtain ⟨b, rfl, _⟩ := hm rfl; rfl
      · obtain ⟨rfl, _, _⟩ := hn rfl; rfl
    case h_12 =>
      obtain ⟨a, c, rfl, _, _, hn, _⟩ := hy
      obtain ⟨rfl, _, _⟩ := hn rfl
      obtain ⟨_, _, rfl, _⟩ := hx
      cases h; rfl
    case h_13 => obtain rfl : x = _ := hx; obtain rfl : y = _ := hy; cases h; rfl
    case h_14 => obtain rfl : x = _ := hx; obtain ⟨_, rfl, _⟩ := hy; cases h; rfl
    case h_15 => obtain ⟨_, rfl, _⟩ := hx; obtain rfl : y = _ := hy; cases h; rfl
    case h_16 => obtain rfl : x = _ := hx; obtain rfl : y = _ := hy; cases h; rfl
    case h_17 => obtain rfl : x = _ := hx; obtain ⟨_, _, rfl, _⟩ := hy; cases h; rfl
    case h_18 => obtain ⟨_, _, rfl, _⟩ := hx; obtain rfl : y = _ := hy; cases h; rfl
    case h_19 fs xs ys =>
      obtain ⟨vs, rfl, hvs⟩ := hx
      obtain ⟨us, rfl, hus⟩ := hy
      split at h
      · rename_i hp
        have hs := ((hC.ty t i hi).eqg hp).2
        simp only [Sem.run_bind, run_program, Result.andThen, hs]
        rw [← Array.forIn_toList, if_neg (by simp), Sem.run_bind,
          run_forEq C.P _ _ (fun f r' b hg u => ?_) fs.toList r h]
        · cases r <;> rfl
        · split at hg
          · rename_i hn
            obtain ⟨a, ha, hg⟩ := Option.bind_eq_some_iff.1 hg
            obtain ⟨c, hc, hg⟩ := Option.bind_eq_some_iff.1 hg
            obtain ⟨e, he, hg⟩ := Option.bind_eq_some_iff.1 hg
            obtain ⟨x1, rx, hx1⟩ := part_sound hC ha hvs
            obtain ⟨y1, ry, hy1⟩ := part_sound hC hc hus
            have hr := ih _ _ _ _ _ _ he hx1 hy1
            simp only [if_pos hn, Sem.run_bind, rx, ry, hr, Result.andThen]
            cases e
            · right; cases hg; exact ⟨rfl, rfl⟩
            · left; exact ⟨rfl, hg⟩
          · rename_i hn
            left; simp only [if_neg hn]; exact ⟨rfl, hg⟩
      · cases h
    case h_20 n e xs ys =>
      obtain ⟨vs, rfl, hvs⟩ := hx
      obtain ⟨us, rfl, hus⟩ := hy
      split at h
      · obtain ⟨ei, hei, h2⟩ := Option.bind_eq_some_iff.1 h
        simp only [Sem.run_bind, run_size hC hei, Result.andThen]
        rw [Std.Legacy.Range.forIn_eq_forIn_range']
        have hl : List.range' [:n].start [:n].size [:n].step = List.range n := by simp [Std.Legacy.Range.size, List.range_eq_range']
        rw [hl, run_forEq C.P _ _ (fun f r' b hg u => ?_) (List.range n) r h2]
        · cases r <;> rfl
        · obtain ⟨a, ha, hg⟩ := Option.bind_eq_some_iff.1 hg
          obtain ⟨c, hc, hg⟩ := Option.bind_eq_some_iff.1 hg
          obtain ⟨e, he, hg⟩ := Option.bind_eq_some_iff.1 hg
          obtain ⟨x1, rx, hx1⟩ := part_sound hC ha hvs
          obtain ⟨y1, ry, hy1⟩ := part_sound hC hc hus
          have hr := ih _ _ _ _ _ _ he hx1 hy1
          simp only [Sem.run_bind, rx, ry, hr, Result.andThen]
          cases e
          · right; cases hg; exact ⟨rfl, rfl⟩
          · left; exact ⟨rfl, hg⟩
      · cases h
    case h_21 => cases h
end
end Go.Am

namespace Go.Am
open Go

def aCells : AV → List AV
  | .agg cs => cs
  | v => [v]
theorem VRel.cells {φ : Env} {w : World} {a : AV} {v : Value} (h : VRel φ w a v) (ht : ∀ vs, a ≠ .tuple vs) : VRels φ w (aCells a) v.cells.toList ∧ (a.sc = true ∨ ∃ cs, a = .agg cs) := by
  cases a
  case agg cs => obtain ⟨vs, rfl, r⟩ := h; exact ⟨r, .inr ⟨_, rfl⟩⟩
  case tuple cs => exact absurd rfl (ht cs)
  all_goals
    refine ⟨?_, .inl rfl⟩
    have hv : v.cells = #[v] := by
      have h' := VRel.one h rfl
      cases v <;> first | rfl | simp [Value.oneCell'] at h'
    rw [hv]; exact VRels.single h

def setRange (cs : List AV) (off : Nat) (l : List AV) : List AV := cs.take off ++ l ++ cs.drop (off + l.length)
def afill (place : Nat → Option (Nat × Nat)) (cells : List AV) : List (Nat × AV) → Option (List AV)
  | [] => some cells
  | (i, v) :: rest =>
    match place i with
    | none => none
    | some (off, size) =>
      match v with
      | .tuple _ => none
      | _ => if (aCells v).length ≠ size ∨ off + (aCells v).length > cells.length then none else afill place (setRange cells off (aCells v)) rest

theorem foldl_setRange (off : Nat) : ∀ (l : List Value) (k : Nat) (cs : Array Value), off + k + l.length ≤ cs.size →
    ((l.zipIdx k).foldl (fun cs (c, j) => cs.setIfInBounds (off + j) c) cs).toList = cs.toList.take (off + k) ++ l ++ cs.toList.drop (off + k + l.length)
  | [], k, cs, h => by simp
  | v :: l, k, cs, h => by
    have hl : off + (k + 1) + l.length ≤ (cs.setIfInBounds (off + k) v).size := by simp at h ⊢; omega
    simp only [List.zipIdx_cons, List.foldl_cons]
    rw [foldl_setRange off l (k + 1) _ hl]
    simp only [Array.toList_setIfInBounds]
    have h1 : off + k < cs.toList.length := by simp at h ⊢; omega
    rw [show off + (k + 1) = off + k + 1 by omega, List.take_succ_eq_append_getElem (by simpa using h1), List.take_set_of_le (Nat.le_refl _), List.drop_set_of_lt (by omega)]
    simp only [List.getElem_set_self, List.length_cons, List.append_assoc, List.cons_append, List.nil_append]
    rw [show off + k + 1 + l.length = off + k + (l.length + 1) by omega]

section
variable {C : Cx} {φ : Env} {w : World}

theorem setRange_rel {cs l : List AV} {vs us : Array Value} {off : Nat} (h : VRels φ w cs vs.toList) (k : VRels φ w l us.toList) (hl : off + l.length ≤ cs.length) :
    VRels φ w (setRange cs off l) (us.zipIdx.foldl (fun cs (c, j) => cs.setIfInBounds (off + j) c) vs).toList := by
  have e : us.toList.length = l.length := k.length
  have e' : vs.toList.length = cs.length := h.length
  rw [← Array.foldl_toList, Array.toList_zipIdx, foldl_setRange off us.toList 0 vs (by simp at e e' ⊢; omega)]
  simp only [Nat.add_zero]
  unfold setRange
  rw [e]
  exact ((h.take off).append k).append (h.drop _)

theorem fill_sound {place : Nat → Option (Nat × Nat)} : ∀ {parts : List (Nat × AV)} {vparts : List (Nat × Value)} {cs : List AV} {vs : Array Value} {r : List AV},
    afill place cs parts = some r → VRels φ w cs vs.toList → (parts.map (·.1) = vparts.map (·.1)) → VRels φ w (parts.map (·.2)) (vparts.map (·.2)) →
    ∃ us, Instr.fill place vs vparts = some us ∧ VRels φ w r us.toList
  | [], vparts, cs, vs, r, h, hr, hi, hv => by
    simp [afill] at h; subst h
    have : vparts = [] := by simpa using hi.symm
    subst this
    exact ⟨vs, rfl, hr⟩
  | (i, v) :: rest, vparts, cs, vs, r, h, hr, hi, hv => by
    cases vparts with
    | nil => simp at hi
    | cons p vrest =>
      obtain ⟨j, u⟩ := p
      simp only [List.map_cons, List.cons.injEq] at hi
      obtain ⟨rfl, hi⟩ := hi
      obtain ⟨u', us', e, hu, hrest⟩ := hv
      simp only [List.map_cons, List.cons.injEq] at e
      obtain ⟨rfl, rfl⟩ := e
      simp only [afill] at h
      simp only [Instr.fill]
      split at h
      · cases h
      · rename_i off size hp
        simp only [hp]
        have key : (∀ vs, v ≠ .tuple vs) ∧ (if (aCells v).length ≠ size ∨ off + (aCells v).length > cs.length then none else afill place (setRange cs off (aCells v)) rest) = some r := by
          cases v <;> first | (exact ⟨fun _ => by simp, h⟩) | (cases h)
        obtain ⟨hnt, h⟩ := key
        split at h
        · cases h
        · rename_i hc
          have hcells := (VRel.cells hu hnt).1
          have el : u.cells.size = (aCells v).length := by have := hcells.length; simpa using this
          have el' : vs.size = cs.length := by have := hr.length; simpa using this
          rw [if_neg (by simp [el, el']; omega)]
          exact fill_sound h (setRange_rel hr hcells (by omega)) hi hrest
end
end Go.Am

namespace Go.Am
open Go

def asI : AV → Option Int
  | .int _ n => some n
  | _ => none
def bound1 (x : Option AV) (y : Nat) : Option Nat :=
  match x with
  | some (.int _ i) => if 0 ≤ i ∧ i ≤ y then some i.toNat else none
  | _ => none
/-- the bounds of a slice expression: low, high, and the new end where it is known -/
def aBounds (len : Nat) (cap : Option Nat) (lo hi mx : Option (Option AV)) : Option (Nat × Nat × Option Nat) :=
  match mx with
  | some m => (bound1 m (cap.getD len)).bind fun m => match hi with
    | some h => (bound1 h m).bind fun h => match lo with
      | some l => (bound1 l h).bind fun l => some (l, h, some m)
      | none => some (0, h, some m)
    | none => none
  | none => (match hi with
    | some h => bound1 h (cap.getD len)
    | none => some len).bind fun h => match lo with
      | some l => (bound1 l h).bind fun l => some (l, h, cap)
      | none => some (0, h, cap)

def aSliceOp (C : Cx) (t : TypeId) (x : AV) (lo hi mx : Option (Option AV)) : Option AV :=
  (C.T t).bind fun ti => match ti.desc, x with
  | .string, .str s => if mx.isSome then none else (aBounds s.size (some s.size) lo hi none).bind fun (l, h, _) => some (.str (s.extract l h))
  | .slice e, .slice β o len cap es => (C.T e).bind fun ei => (aBounds len cap lo hi mx).bind fun (l, h, m) =>
      if es = ei.size then some (.slice β (o + l * ei.size) (h - l) (m.map (· - l)) es) else none
  | .slice e, .vec nl len cap cs => (C.T e).bind fun ei => (aBounds len cap lo hi mx).bind fun (l, h, m) =>
      if h ≤ len then some (.vec nl (h - l) (m.map (· - l)) ((cs.drop (l * ei.size)).take ((h - l) * ei.size))) else none
  | .array n e, .ptr β o => (C.T e).bind fun ei => (aBounds n (some n) lo hi mx).bind fun (l, h, m) =>
      some (.slice β (o + l * ei.size) (h - l) (m.map (· - l)) ei.size)
  | .array n e, .iptr cs => (C.T e).bind fun ei => (aBounds n (some n) lo hi mx).bind fun (l, h, m) =>
      some (.vec false (h - l) (m.map (· - l)) ((cs.drop (l * ei.size)).take ((h - l) * ei.size)))
  | _, _ => none

def aFieldAddr (C : Cx) (s : TypeId) (x : AV) (i : Nat) : Option AV :=
  (C.T s).bind fun ti => match ti.desc with
  | .struct fs => (fs[i]?).bind fun f => (C.T f.type).bind fun fi => if fi.size = 0 then none else
    match x with
    | .ptr β o => some (.ptr β (o + f.offset))
    | .iptr cs => some (.iptr (cs.drop f.offset))
    | _ => none
  | _ => none
def aField (C : Cx) (s : TypeId) (x : AV) (i : Nat) : Option AV :=
  (C.T s).bind fun ti => match ti.desc, x with
  | .struct fs, .agg cs => (fs[i]?).bind fun f => partA C f.type cs f.offset
  | _, _ => none
def aIndexAddr (C : Cx) (t : TypeId) (x i : AV) : Option AV :=
  (C.T t).bind fun ti => match ti.desc, x, i with
  | .slice e, .slice β o len _ _, .int _ i => (C.T e).bind fun ei => if 0 ≤ i ∧ i < len then some (.ptr β (o + i.toNat * ei.size)) else none
  | .slice e, .vec _ len _ cs, .int _ i => (C.T e).bind fun ei => if 0 ≤ i ∧ i < len then some (.iptr (cs.drop (i.toNat * ei.size))) else none
  | .array n e, .ptr β o, .int _ i => (C.T e).bind fun ei => if 0 ≤ i ∧ i < n then some (.ptr β (o + i.toNat * ei.size)) else none
  | .array n e, .iptr cs, .int _ i => (C.T e).bind fun ei => if 0 ≤ i ∧ i < n then some (.iptr (cs.drop (i.toNat * ei.size))) else none
  | _, _, _ => none
def aIndex (C : Cx) (t : TypeId) (x i : AV) : Option AV :=
  (C.T t).bind fun ti => match ti.desc, x, i with
  | .array n e, .agg cs, .int _ i => (C.T e).bind fun ei => if 0 ≤ i ∧ i < n then partA C e cs (i.toNat * ei.size) else none
  | .string, .str s, .int _ i => if 0 ≤ i then (s[i.toNat]?).bind fun b => some (.int .u8 b.toNat) else none
  | _, _, _ => none
def aBuild (C : Cx) (t : TypeId) (parts : List (Nat × AV)) : Option AV :=
  (C.T t).bind fun ti => match ti.desc with
  | .struct fs => (omap (fun f : Field => (C.T f.type).map fun fi => (f.offset, fi.size)) fs.toList).bind fun places =>
      (afill (places[·]?) ti.zero parts).map .agg
  | .array _ e => (C.T e).bind fun ei => (afill (fun i => some (i * ei.size, ei.size)) ti.zero parts).map .agg
  | _ => none
def aUn (op : UnOp) (x : AV) : Option AV :=
  match op, x with
  | .neg, .int k n => some (.int k (k.wrap (0 - n)))
  | .xor, .int k n => aInt .xor k (if k.signed then -1 else k.max) n
  | .not, .bool b => some (.bool !b)
  | _, _ => none
def aConvert (C : Cx) (src dst : TypeId) (x : AV) : Option AV :=
  (C.T src).bind fun _ => (C.T dst).bind fun di => match di.desc, x with
  | .int k, .int _ n => some (.int k (k.wrap n))
  | .string, .str s => some (.str s)
  | _, _ => none
def isIface (C : Cx) (t : TypeId) : Bool := match C.T t with | some ti => (match ti.desc with | .interface _ => true | _ => false) | none => false
def isConst (o : Operand) : Bool := match o with | .const _ => true | _ => false
def aBin (C : Cx) (op : BinOp) (t : TypeId) (xo yo : Operand) (x y : AV) : Option AV :=
  match x, y with
  | .int k a, .int k' b => if op = .shl ∨ op = .shr then aShift op k a b else if k = k' then aInt op k a b else none
  | .str a, .str b => aStr op a b
  | .nilIface, .nilIface => if (isConst xo || isConst yo) && isIface C t then (match op with | .eql => some (.bool true) | .neq => some (.bool false) | _ => none) else none
  | .nilIface, .iface _ _ => if isIface C t then (match op with | .eql => some (.bool false) | .neq => some (.bool true) | _ => none) else none
  | .iface _ _, .nilIface => if isIface C t then (match op with | .eql => some (.bool false) | .neq => some (.bool true) | _ => none) else none
  | x, y => match op with
    | .eql => (aEqual C 10000 t x y).map .bool
    | .neq => (aEqual C 10000 t x y).map fun b => .bool !b
    | _ => none
def max2A : AV → AV → Option AV
  | .int k x, .int _ y => some (.int k (if y > x then y else x))
  | _, _ => none
def min2A : AV → AV → Option AV
  | .int k x, .int _ y => some (.int k (if y < x then y else x))
  | _, _ => none
def ofoldl {α : Type} (f : α → α → Option α) : α → List α → Option α
  | a, [] => some a
  | a, x :: xs => (f a x).bind fun b => ofoldl f b xs
def aBuiltin (C : Cx) (b : Builtin) (ts : Array TypeId) (args : List AV) : Option AV :=
  match b, args with
  | .len, [x] => (ts[0]?).bind fun t => (C.T t).bind fun ti => match ti.desc, x with
    | .string, .str s => some (.int .i64 s.size)
    | .array n _, _ => some (.int .i64 n)
    | .slice _, .slice _ _ len _ _ => some (.int .i64 len)
    | .slice _, .vec _ len _ _ => some (.int .i64 len)
    | .map _ _, .nilmap => some (.int .i64 0)
    | _, _ => none
  | .cap, [x] => (ts[0]?).bind fun t => (C.T t).bind fun ti => match ti.desc, x with
    | .array n _, _ => some (.int .i64 n)
    | .slice _, .slice _ _ _ (some c) _ => some (.int .i64 c)
    | .slice _, .vec _ _ (some c) _ => some (.int .i64 c)
    | _, _ => none
  | .max, x :: xs => ofoldl max2A x xs
  | .min, x :: xs => ofoldl min2A x xs
  | _, _ => none

/-- operations that read no memory: their value -/
def pureOp (C : Cx) (ρ : Operand → Option AV) (op : Op) : Option AV :=
  match op with
  | .move x | .assign x => ρ x
  | .pick c a b => (ρ c).bind fun c => match c with | .bool t => if t then ρ a else ρ b | _ => none
  | .build t parts => (omap (fun p : Nat × Operand => (ρ p.2).map fun v => (p.1, v)) parts.toList).bind (aBuild C t)
  | .nilCheck x => (ρ x).bind fun v => match v with
    | .ptr _ _ | .iptr _ | .iface _ _ => some v
    | .func (.func _) _ _ => some v
    | _ => none
  | .binOp op t x y _ => (ρ x).bind fun a => (ρ y).bind fun b => aBin C op t x y a b
  | .unOp op _ x => (ρ x).bind (aUn op)
  | .convert s d x => (ρ x).bind (aConvert C s d)
  | .makeInterface t x => (ρ x).bind fun v => (C.T t).bind fun ti => match ti.desc with | .interface _ => none | _ => some (.iface t v)
  | .makeFunc fn first captured => (omap ρ first.toList).bind fun f => (omap ρ captured.toList).bind fun c => some (.func fn f c)
  | .slice t x lo hi mx => (ρ x).bind fun v => aSliceOp C t v (lo.map ρ) (hi.map ρ) (mx.map ρ)
  | .fieldAddr s x i => (ρ x).bind fun v => aFieldAddr C s v i
  | .field s x i => (ρ x).bind fun v => aField C s v i
  | .indexAddr t x i => (ρ x).bind fun v => (ρ i).bind fun j => aIndexAddr C t v j
  | .index t x i => (ρ x).bind fun v => (ρ i).bind fun j => aIndex C t v j
  | .extract t i => (ρ t).bind fun v => match v with | .tuple vs => vs[i]? | _ => none
  | .call { callee := .builtin b, args, argTypes } => (omap ρ args.toList).bind (aBuiltin C b argTypes)
  | _ => none
end Go.Am

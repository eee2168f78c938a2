/- A part of the proof about cellularlaw49.OrphanBalanced: lemmas only; what they say is theirs alone and no condition of the claim. -/
import Derived.Test.YtjdldndhbbkflaaGreatDoorAmC
set_option autoImplicit false
set_option linter.unusedVariables false
set_option linter.unusedSimpArgs false
noncomputable section
namespace Go.Am
open Go
section
variable {C : Cx} {φ : Env} {w : World}

theorem setCell_put {b : Nat} {c : Array Value} {t : TypeId} {fr : Nat × Nat} (hb : w.heap[b]? = some (.cells c t fr)) (o : Nat) (v : Value) :
    WPut w (w.setCell ⟨b, o, none⟩ v) b ∧ (w.setCell ⟨b, o, none⟩ v).heap[b]? = some (.cells (c.setIfInBounds o v) t fr) := by
  have h1 : (w.setCell ⟨b, o, none⟩ v).heap[b]? = some (.cells (c.setIfInBounds o v) t fr) := by
    simp [World.setCell, Array.getElem?_modify, hb]
  refine ⟨⟨by simp [World.setCell], fun k hk => ?_, ?_, rfl, rfl, rfl⟩, h1⟩
  · simp only [World.setCell, Array.getElem?_modify]; rw [if_neg (fun e => hk e.symm)]
  · simp only [World.shape?, h1, hb, Array.size_setIfInBounds]

theorem run_storeCells (P : Program) {b : Nat} {t : TypeId} {fr : Nat × Nat} (o : Nat) : ∀ (vs : List Value) (i : Nat) (c : Array Value) (w : World), w.heap[b]? = some (.cells c t fr) →
    (∀ i, i < c.size → ¬ (fr.1 ≤ i ∧ i < fr.2)) → o + i + vs.length ≤ c.size → (∀ v ∈ vs, v.oneCell' = true) →
    ∃ w₁ c₁, (storeCells ⟨b, o, none⟩ vs i).run P w = .ok () w₁ ∧ WPut w w₁ b ∧ w₁.heap[b]? = some (.cells c₁ t fr) ∧ c₁.size = c.size ∧
      c₁.toList = c.toList.take (o + i) ++ vs ++ c.toList.drop (o + i + vs.length)
  | [], i, c, w, hb, hf, hl, ho => ⟨w, c, rfl, WPut.refl _ _, hb, rfl, by simp⟩
  | v :: vs, i, c, w, hb, hf, hl, ho => by
    have hlt : o + i < c.size := by simp at hl; omega
    obtain ⟨hp, hb1⟩ := setCell_put hb (o + i) v
    obtain ⟨w₁, c₁, hr, hp1, hb2, hs, hc⟩ := run_storeCells P o vs (i + 1) (c.setIfInBounds (o + i) v) (w.setCell ⟨b, o + i, none⟩ v) hb1
      (by simpa using hf) (by simp at hl ⊢; omega) (fun u hu => ho u (by simp [hu]))
    refine ⟨w₁, c₁, ?_, hp.trans hp1, hb2, by simpa using hs, ?_⟩
    · have hcell : w.cell? ⟨b, o + i, none⟩ = some c[o + i] := by simp [World.cell?, hb, hlt]
      have hfz : w.frozen? ⟨b, o + i, none⟩ = false := by
        have := hf (o + i) hlt
        simp only [World.frozen?, hb]
        rw [Bool.eq_false_iff]
        simpa using this
      have hst : (store ⟨b, o + i, none⟩ v).run P w = .ok () (w.setCell ⟨b, o + i, none⟩ v) := by
        rw [run_store P w _ v .plain (ho v (by simp)), hcell]
        simp [hfz]
      simp only [storeCells, Sem.run_bind, add_at, hst, Result.andThen]
      exact hr
    · rw [hc]
      simp only [Array.toList_setIfInBounds]
      have h1 : o + i < c.toList.length := by simpa using hlt
      rw [show o + (i + 1) = o + i + 1 by omega, List.take_succ_eq_append_getElem (by simpa using h1), List.take_set_of_le (Nat.le_refl _), List.drop_set_of_lt (by omega)]
      simp only [List.getElem_set_self, List.length_cons, List.append_assoc, List.cons_append, List.nil_append]
      rw [show o + i + 1 + vs.length = o + i + (vs.length + 1) by omega]

/-- storing into a related block -/
theorem store_block {φ' : Env} {w₁ : World} {b δ o : Nat} {cs l : List AV} {c c₁ : Array Value} {t : TypeId} {fr : Nat × Nat} {vs : List Value} (P : Program)
    (hB : BRel φ w (.cells cs) b δ) (hv : VRels φ w l vs) (hs : ∀ v ∈ l, v.sc = true) (hl : o + l.length ≤ cs.length) (hi : Lv φ b) :
    ∃ w₁, (storeCells ⟨b, δ + o, none⟩ vs).run P w = .ok () w₁ ∧ WPut w w₁ b ∧ BRel φ w₁ (.cells (setRange cs o l)) b δ := by
  obtain ⟨c, t, fr, hb, hf, hsz, hcs⟩ := hB
  have hlen : vs.length = l.length := hv.length
  have hone : ∀ v ∈ vs, v.oneCell' = true := by
    intro v hv'
    obtain ⟨i, hi⟩ := List.getElem?_of_mem hv'
    have hil : i < l.length := by
      rw [← hlen]
      rcases Nat.lt_or_ge i vs.length with h | h
      · exact h
      · rw [List.getElem?_eq_none h] at hi; cases hi
    obtain ⟨x, hx, hr⟩ := hv.get (List.getElem?_eq_getElem hil)
    rw [hi] at hx; cases hx
    exact hr.one (hs _ (List.getElem_mem _))
  obtain ⟨w₁, c₁, hr, hp, hb1, hs1, hc1⟩ := run_storeCells P (δ + o) vs 0 c w hb hf (by omega) hone
  refine ⟨w₁, hr, hp, c₁, t, fr, hb1, by rw [hs1]; exact hf, ?_, fun i v hiv => ?_⟩
  · rw [hs1]; simp only [setRange, List.length_append, List.length_take, List.length_drop]; omega
  · have hx := Ext.put hp hi
    rw [Nat.add_zero] at hc1
    have hget : c₁[δ + i]? = (c.toList.take (δ + o) ++ vs ++ c.toList.drop (δ + o + vs.length))[δ + i]? := by rw [← Array.getElem?_toList, hc1]
    have htl : (c.toList.take (δ + o)).length = δ + o := by simp; omega
    unfold setRange at hiv
    have htl' : (cs.take o).length = o := by simp; omega
    by_cases h1 : i < o
    · rw [List.append_assoc, List.getElem?_append_left (by omega), List.getElem?_take_of_lt h1] at hiv
      obtain ⟨x, a, b2, r⟩ := hcs i v hiv
      refine ⟨x, ?_, b2, VRel.ext hx _ _ r⟩
      rw [hget, List.append_assoc, List.getElem?_append_left (by omega), List.getElem?_take_of_lt (by omega), Array.getElem?_toList]; exact a
    · by_cases h2 : i < o + l.length
      · rw [List.append_assoc, List.getElem?_append_right (by omega), List.getElem?_append_left (by omega), htl'] at hiv
        obtain ⟨x, a, r⟩ := hv.get hiv
        refine ⟨x, ?_, hs _ (List.mem_of_getElem? hiv), VRel.ext hx _ _ r⟩
        rw [hget, List.append_assoc, List.getElem?_append_right (by omega), List.getElem?_append_left (by omega), htl]
        rw [← a]; congr 1; omega
      · rw [List.getElem?_append_right (by simp; omega)] at hiv
        simp only [List.length_append, htl', List.getElem?_drop] at hiv
        have hiv' : cs[i]? = some v := by rw [← hiv]; congr 1; omega
        obtain ⟨x, a, b2, r⟩ := hcs i v hiv'
        refine ⟨x, ?_, b2, VRel.ext hx _ _ r⟩
        rw [hget, List.getElem?_append_right (by simp; omega)]
        simp only [List.length_append, htl, List.getElem?_drop, Array.getElem?_toList]
        rw [← a]; congr 1; omega
end
end Go.Am

namespace Go.Am
open Go

def aSameSc : AV → AV → Bool
  | .int k a, .int k' b => k == k' && a == b
  | .str a, .str b => a == b
  | .bool a, .bool b => a == b
  | _, _ => false
def aSameScs : List AV → List AV → Bool
  | [], [] => true
  | a :: l, b :: m => aSameSc a b && aSameScs l m
  | _, _ => false
def aSameKey : AV → AV → Bool
  | .agg a, .agg b => aSameScs a b
  | a, b => aSameSc a b

/-- the cells of what is appended or copied, and their number in elements -/
def srcA (A : AH) (size : Nat) (x : AV) : Option (List AV × Nat) :=
  match x with
  | .vec _ n _ cs => if cs.length = n * size then some (cs, n) else none
  | .slice β o n _ _ => if n = 0 then some ([], 0) else match A.get β with
    | some (.cells cs) => if ((cs.drop o).take (n * size)).length = n * size then some ((cs.drop o).take (n * size), n) else none
    | _ => none
  | .str s => if size = 1 then some (bytesA s, s.size) else none
  | _ => none

def isIntD : TypeDesc → Bool
  | .int _ => true
  | _ => false
def isSl : AV → Bool
  | .slice _ _ _ _ _ | .vec _ _ _ _ => true
  | _ => false
/-- append of the cells xs of n elements, n not 0 -/
def aAppendTo (A : AH) (size bytes : Nat) (s : AV) (xs : List AV) (n : Nat) : Option (AV × AH) :=
  match s with
  | .slice β o len cap es =>
    if (2 * (len + n) + 192) * bytes ≤ 2 ^ 48 ∧ len + n < 2 ^ 48 ∧ es = size then
      match A.get β with
      | some (.cells cs) => if o + len * size ≤ cs.length then
        match cap with
        | some c => if len + n ≤ c then
            (if o + (len + n) * size ≤ cs.length then some (.slice β o (len + n) cap es, A.put β (.cells (setRange cs (o + len * size) xs))) else none)
          else if ((cs.drop o).take (len * size)).all AV.sc = true then some (.slice A.next 0 (len + n) none es, A.alloc (.cells ((cs.drop o).take (len * size) ++ xs))) else none
        | none => if ((cs.drop o).take (len * size)).all AV.sc = true then some (.slice A.next 0 (len + n) none es, (A.kill β).alloc (.cells ((cs.drop o).take (len * size) ++ xs))) else none
        else none
      | _ => none
    else none
  | .vec _ len (some c) cs => if (2 * (len + n) + 192) * bytes ≤ 2 ^ 48 ∧ len + n < 2 ^ 48 ∧ c < len + n ∧ cs.length = len * size ∧ cs.all AV.sc = true then
      some (.slice A.next 0 (len + n) none size, A.alloc (.cells (cs ++ xs))) else none
  | _ => none
def aAppend (C : Cx) (A : AH) (ts : Array TypeId) (s x : AV) : Option (AV × AH) :=
  (ts[0]?).bind fun t => (C.T t).bind fun ti => match ti.desc with
  | .slice e => (C.T e).bind fun ei => (ts[1]?).bind fun tx => (C.T tx).bind fun xi =>
    if isIntD xi.desc then none else (srcA A ei.size x).bind fun p =>
      if p.2 = 0 then (if isSl s then some (s, A) else none) else
      if p.1.all AV.sc = true ∧ ei.zero.length = ei.size then aAppendTo A ei.size ei.bytes s p.1 p.2 else none
  | _ => none

def aCopy (C : Cx) (A : AH) (ts : Array TypeId) (d x : AV) : Option (AV × AH) :=
  (ts[0]?).bind fun t => (C.T t).bind fun ti => match ti.desc with
  | .slice e => (C.T e).bind fun ei => (srcA A ei.size x).bind fun (xs, n) =>
    match d with
    | .slice β o len _ _ =>
      let m := Nat.min n len
      let ys := xs.take (m * ei.size)
      if m = 0 then some (.int .i64 0, A) else
      (match A.get β with
      | some (.cells cs) => if o + ys.length ≤ cs.length ∧ ys.all AV.sc = true ∧ ys.length = m * ei.size then some (.int .i64 m, A.put β (.cells (setRange cs o ys))) else none
      | _ => none)
    | .vec _ len _ _ => if Nat.min n len = 0 then some (.int .i64 0, A) else none
    | _ => none
  | _ => none

def aMapSet (C : Cx) (t : TypeId) (k v : AV) (es : List (AV × AV)) : Option (List (AV × AV)) :=
  (C.T t).bind fun ti => match ti.desc with
  | .map kt _ => if aKeyOk C 10000 kt k then (afind C kt k es 0).bind fun r => match r with
    | some (i, _) => if ((es[i]?).map fun e => aSameKey e.1 k) = some true then some (es.set i (k, v)) else none
    | none => some (es ++ [(k, v)])
    else none
  | _ => none
def aMapDel (C : Cx) (t : TypeId) (k : AV) (es : List (AV × AV)) : Option (List (AV × AV)) :=
  (C.T t).bind fun ti => match ti.desc with
  | .map kt _ => if aKeyOk C 10000 kt k then (afind C kt k es 0).bind fun r => match r with
    | some (i, _) => some (es.eraseIdx i)
    | none => some es
    else none
  | _ => none

/-- operations that change memory: their value, and memory behind them -/
def effOp (C : Cx) (ρ : Operand → Option AV) (op : Op) (A : AH) : Option (AV × AH) :=
  match op with
  | .store t a x => (ρ a).bind fun av => (ρ x).bind fun v => (C.T t).bind fun i => match av, v with
    | .ptr _ _, .tuple _ => none
    | .ptr β o, v => (match A.get β with
      | some (.cells cs) => if (aCells v).length = i.size ∧ o + (aCells v).length ≤ cs.length ∧ (aCells v).all AV.sc = true then
          some (.tuple [], A.put β (.cells (setRange cs o (aCells v)))) else none
      | _ => none)
    | _, _ => none
  | .mapUpdate t m k x | .insert t m k x => (ρ m).bind fun mv => (ρ k).bind fun kv => (ρ x).bind fun v => match mv with
    | .map β => (match A.get β with
      | some (.map es) => (aMapSet C t kv v es).map fun es' => (.tuple [], A.put β (.map es'))
      | _ => none)
    | _ => none
  | .next it isS => (ρ it).bind fun v => match v, isS with
    | .ptr β 0, true => (match A.get β with
      | some (.siter s pos) => if pos < s.size then
          some (.tuple [.bool true, .int .i64 pos, .int .i32 (Utf8.decode s pos).1], A.put β (.siter s (pos + (Utf8.decode s pos).2)))
        else some (.tuple [.bool false], A)
      | _ => none)
    | _, _ => none
  | .call { callee := .builtin b, args, argTypes } => (omap ρ args.toList).bind fun vs => match b, vs with
    | .append, [s, x] => aAppend C A argTypes s x
    | .copy, [d, x] => aCopy C A argTypes d x
    | .delete, [m, k] => (argTypes[0]?).bind fun t => match m with
      | .map β => (match A.get β with
        | some (.map es) => (aMapDel C t k es).map fun es' => (.tuple [], A.put β (.map es'))
        | _ => none)
      | _ => none
    | .clear, [m] => (argTypes[0]?).bind fun t => (C.T t).bind fun _ => match m with
      | .map β => (match A.get β with
        | some (.map _) => some (.tuple [], A.put β (.map []))
        | _ => none)
      | _ => none
    | _, _ => none
  | _ => none
end Go.Am

namespace Go.Am
open Go
section
variable {C : Cx} {φ : Env} {A : AH} {w : World}

theorem HRel.cellsAt (hA : HRel φ A w) {β b δ : Nat} {cs : List AV} (hg : A.get β = some (.cells cs)) (hφ : φ β = .live b δ) : BRel φ w (.cells cs) b δ := by
  obtain ⟨b', δ', e, r⟩ := hA.blk β _ hg
  rw [hφ] at e; cases e; exact r
theorem HRel.liveOf (hA : HRel φ A w) {β : Nat} {B : ABlk} (hg : A.get β = some B) : ∃ b δ, φ β = .live b δ ∧ BRel φ w B b δ := hA.blk β B hg

theorem srcA_sound (hA : HRel φ A w) {size n : Nat} {x : AV} {vx : Value} {xs : List AV} (h : srcA A size x = some (xs, n)) (hx : VRel φ w x vx) :
    (Builtin.lenOf vx).run C.P w = .ok n w ∧ xs.length = n * size ∧
    ∀ m, m ≤ n → ∃ vals, (Builtin.firstCells size m vx).run C.P w = .ok vals w ∧ VRels φ w (xs.take (m * size)) vals.toList := by
  unfold srcA at h
  split at h
  · rename_i nl k cap cs
    split at h
    · rename_i hlen
      cases h
      obtain ⟨a, c, rfl, hl, hcap, hn, hy⟩ := hx
      refine ⟨rfl, hlen, fun m hm => ?_⟩
      cases nl with
      | true =>
        obtain ⟨rfl, rfl, rfl⟩ := hn rfl
        refine ⟨#[], rfl, ?_⟩
        have : m = 0 := by omega
        subst this
        simp [VRels]
      | false =>
        obtain ⟨a', rfl, hy'⟩ := hy rfl
        by_cases hm0 : m = 0
        · subst hm0
          refine ⟨#[], ?_, by simp [VRels]⟩
          simp only [Builtin.firstCells, Nat.zero_mul, loadCells, loadCellsFrom, Sem.run_pure]
        obtain ⟨b, o, rfl, hc⟩ := hy' (by omega)
        obtain ⟨vs, hr, hv, _⟩ := run_loadCells_at C.P ((hc.cells).take (m * size))
        have : (xs.take (m * size)).length = m * size := by
          rw [List.length_take, hlen]; exact Nat.min_eq_left (Nat.mul_le_mul_right _ hm)
        rw [this] at hr
        exact ⟨vs, hr, hv⟩
    · cases h
  · rename_i β o k cap es
    obtain ⟨a, c, rfl, hok, hl, hcap, hroom⟩ := hx
    split at h
    · rename_i h0
      subst h0
      cases h
      refine ⟨rfl, by simp, fun m hm => ⟨#[], ?_, by simp [VRels]⟩⟩
      have : m = 0 := by omega
      subst this
      simp only [Builtin.firstCells, Nat.zero_mul, loadCells, loadCellsFrom, Sem.run_pure]
    · split at h
      · rename_i cs hg
        split at h
        · rename_i hlen
          cases h
          obtain ⟨b, δ, hφ, hB⟩ := hA.liveOf hg
          rw [hφ] at hok
          have hok' : a = _ := hok (by omega)
          refine ⟨rfl, hlen, fun m hm => ?_⟩
          obtain ⟨vs, hr, hv, _⟩ := run_loadCells_at C.P (((hB.cells.drop o).take (n * size)).take (m * size))
          have : (((cs.drop o).take (n * size)).take (m * size)).length = m * size := by
            rw [List.length_take, hlen]; exact Nat.min_eq_left (Nat.mul_le_mul_right _ hm)
          rw [this] at hr
          exact ⟨vs, by rw [hok']; exact hr, hv⟩
        · cases h
      · cases h
  · rename_i s
    split at h
    · rename_i h1
      cases h
      obtain rfl : vx = _ := hx
      refine ⟨rfl, by simp [bytesA, h1], fun m hm => ⟨_, rfl, ?_⟩⟩
      subst h1
      rw [Nat.mul_one]
      have hall := (bytesA_rel (φ := φ) (w := w) s).take m
      have he : ((s.extract 0 m).data.map fun b => Value.int .u8 b.toNat).toList = (s.data.map fun b => Value.int .u8 b.toNat).toList.take m := by
        simp only [Array.toList_map, ByteArray.data_extract, Array.toList_extract, List.extract, List.drop_zero, Nat.sub_zero, List.map_take]
      rw [he]
      exact hall
    · cases h
  · cases h

theorem aSameSc_sound {a b : AV} {x y : Value} (h : aSameSc a b = true) (hx : VRel φ w a x) (hy : VRel φ w b y) (n : Nat) : Instr.sameBits n x y = true := by
  unfold aSameSc at h
  split at h
  · obtain rfl : x = _ := hx; obtain rfl : y = _ := hy
    cases n <;> simpa [Instr.sameBits] using h
  · obtain rfl : x = _ := hx; obtain rfl : y = _ := hy
    cases n <;> simpa [Instr.sameBits] using h
  · obtain rfl : x = _ := hx; obtain rfl : y = _ := hy
    cases n <;> simpa [Instr.sameBits] using h
  · cases h
theorem aSameScs_sound (n : Nat) : ∀ {a b : List AV} {x y : List Value}, aSameScs a b = true → VRels φ w a x → VRels φ w b y →
    x.length = y.length ∧ ((x.zip y).all fun (u, v) => Instr.sameBits n u v) = true
  | [], [], x, y, _, hx, hy => by
    have : x = [] := hx
    subst this
    have : y = [] := hy
    subst this
    exact ⟨rfl, rfl⟩
  | a :: l, b :: m, x, y, h, hx, hy => by
    obtain ⟨u, x', rfl, hu, hx'⟩ := hx
    obtain ⟨v, y', rfl, hv, hy'⟩ := hy
    simp only [aSameScs, Bool.and_eq_true] at h
    obtain ⟨e1, e2⟩ := aSameScs_sound n h.2 hx' hy'
    exact ⟨by simp [e1], by simp only [List.zip_cons_cons, List.all_cons, aSameSc_sound h.1 hu hv n, Bool.true_and]; exact e2⟩
  | [], _ :: _, _, _, h, _, _ => by simp [aSameScs] at h
  | _ :: _, [], _, _, h, _, _ => by simp [aSameScs] at h
theorem aSameKey_sound {a b : AV} {x y : Value} (h : aSameKey a b = true) (hx : VRel φ w a x) (hy : VRel φ w b y) (n : Nat) : Instr.sameBits (n + 1) x y = true := by
  unfold aSameKey at h
  split at h
  · obtain ⟨vs, rfl, hvs⟩ := hx
    obtain ⟨us, rfl, hus⟩ := hy
    obtain ⟨e1, e2⟩ := aSameScs_sound n h hvs hus
    simp only [Instr.sameBits, Bool.and_eq_true]
    exact ⟨by simpa using e1, e2⟩
  · exact aSameSc_sound h hx hy _

theorem ERel.length : ∀ {es : List (AV × AV)} {l : List MapEntry}, ERel φ w es l → l.length = es.length
  | [], l, h => by have : l = [] := h; subst this; rfl
  | a :: es, l, h => by obtain ⟨e, l', rfl, _, _, h⟩ := h; simp [ERel.length h]
theorem ERel.get : ∀ {es : List (AV × AV)} {l : List MapEntry} {i : Nat} {e : AV × AV}, ERel φ w es l → es[i]? = some e → ∃ c, l[i]? = some c ∧ VRel φ w e.1 c.key ∧ VRel φ w e.2 c.val
  | [], l, i, e, h, he => by simp at he
  | a :: es, l, 0, e, h, he => by obtain ⟨c, l', rfl, h1, h2, h3⟩ := h; simp at he; subst he; exact ⟨c, rfl, h1, h2⟩
  | a :: es, l, i + 1, e, h, he => by
    obtain ⟨c, l', rfl, h1, h2, h3⟩ := h
    obtain ⟨d, x, y⟩ := ERel.get h3 (by simpa using he)
    exact ⟨d, by simpa using x, y⟩
theorem ERel.set : ∀ {es : List (AV × AV)} {l : List MapEntry} (i : Nat) {k v : AV} {e : MapEntry}, ERel φ w es l → VRel φ w k e.key → VRel φ w v e.val → ERel φ w (es.set i (k, v)) (l.set i e)
  | [], l, i, k, v, e, h, _, _ => by have : l = [] := h; subst this; exact rfl
  | a :: es, l, 0, k, v, e, h, hk, hv => by obtain ⟨c, l', rfl, h1, h2, h3⟩ := h; exact ⟨e, l', rfl, hk, hv, h3⟩
  | a :: es, l, i + 1, k, v, e, h, hk, hv => by obtain ⟨c, l', rfl, h1, h2, h3⟩ := h; exact ⟨c, _, rfl, h1, h2, ERel.set i h3 hk hv⟩
theorem ERel.push : ∀ {es : List (AV × AV)} {l : List MapEntry} {k v : AV} {e : MapEntry}, ERel φ w es l → VRel φ w k e.key → VRel φ w v e.val → ERel φ w (es ++ [(k, v)]) (l ++ [e])
  | [], l, k, v, e, h, hk, hv => by have : l = [] := h; subst this; exact ⟨e, [], rfl, hk, hv, rfl⟩
  | a :: es, l, k, v, e, h, hk, hv => by obtain ⟨c, l', rfl, h1, h2, h3⟩ := h; exact ⟨c, _, rfl, h1, h2, ERel.push h3 hk hv⟩
theorem ERel.erase : ∀ {es : List (AV × AV)} {l : List MapEntry} (i : Nat), ERel φ w es l → ERel φ w (es.eraseIdx i) (l.eraseIdx i)
  | [], l, i, h => by have : l = [] := h; subst this; exact rfl
  | a :: es, l, 0, h => by obtain ⟨c, l', rfl, h1, h2, h3⟩ := h; exact h3
  | a :: es, l, i + 1, h => by obtain ⟨c, l', rfl, h1, h2, h3⟩ := h; exact ⟨c, _, rfl, h1, h2, ERel.erase i h3⟩

/-- a map's block, set anew -/
theorem setObj_put {r : Nat} {o o' : Obj} (P : Program) (hb : w.heap[r]? = some o) (ho : w.shape? r = none) (ho' : ∀ c t f, o' ≠ .cells c t f) :
    (setObj r o').run P w = .ok () { w with heap := w.heap.setIfInBounds r o' } ∧ WPut w { w with heap := w.heap.setIfInBounds r o' } r ∧
    ({ w with heap := w.heap.setIfInBounds r o' } : World).heap[r]? = some o' := by
  have hlt : r < w.heap.size := by
    rcases Nat.lt_or_ge r w.heap.size with h | h
    · exact h
    · rw [Array.getElem?_eq_none h] at hb; cases hb
  have h1 : (w.heap.setIfInBounds r o')[r]? = some o' := by simp [hlt]
  refine ⟨?_, ⟨by simp, fun k hk => ?_, ?_, rfl, rfl, rfl⟩, h1⟩
  · simp only [setObj, Sem.run, hb]
    cases o <;> first | rfl | (simp [World.shape?, hb] at ho)
  · show (w.heap.setIfInBounds r o')[k]? = _
    rw [Array.getElem?_setIfInBounds, if_neg (fun e => hk e.symm)]
  · rw [ho]
    simp only [World.shape?, h1]
    cases o' <;> first | rfl | exact absurd rfl (ho' _ _ _)
end
end Go.Am

namespace Go.Am
open Go
section
variable {C : Cx} {φ : Env} {A : AH} {w : World}

/-- what an effect leaves -/
def EffTo (C : Cx) (φ : Env) (w : World) (s : Sem Value) (v : AV) (A' : AH) : Prop :=
  ∃ y w' φ', s.run C.P w = .ok y w' ∧ HRel φ' A' w' ∧ VRel φ' w' v y ∧ Ext φ w φ' w'

theorem nextslicecap_le (need c : Nat) (h : c < need) : Builtin.nextslicecap need c ≤ 2 * need + 192 := by
  unfold Builtin.nextslicecap
  split
  · omega
  · split
    · omega
    · have : ∀ (r k : Nat), k ≤ 2 * need + 192 → Builtin.growBy need r k ≤ 2 * need + 192 := by
        intro r
        induction r with
        | zero => intro k hk; exact hk
        | succ r ih =>
          intro k hk
          simp only [Builtin.growBy]
          split
          · exact hk
          · exact ih _ (by omega)
      exact this _ _ (by omega)

theorem zeroCells_one (zero : Array Value) (hz : ∀ v ∈ zero.toList, v.oneCell' = true) (n : Nat) : (Builtin.zeroCells zero n).size = n * zero.size := by
  simp [Builtin.zeroCells]

theorem Ext.drawn (d : Nat) : Ext φ w φ { w with drawn := d } := ⟨fun _ _ => .inl rfl, fun _ _ _ => rfl, fun _ h => .inl h, fun _ _ h => h, Nat.le_refl _, rfl, rfl, rfl, rfl⟩
theorem HRel.drawn (hA : HRel φ A w) (d : Nat) : HRel φ A { w with drawn := d } :=
  ⟨hA.born, hA.fresh, fun β B hb => by obtain ⟨b, δ, e, r⟩ := hA.blk β B hb; exact ⟨b, δ, e, r.ext (Ext.drawn d) rfl⟩, hA.live, hA.inj, hA.prv, hA.dis⟩

/-- an append that needs a new array -/
theorem append_grows (hC : C.Ok) {ts : Array TypeId} {t e tx tr : TypeId} {ti ei xi : TyI} {base : Option Addr} {len c n : Nat} {vx : Value} {old new : Array Value}
    (h0 : ts[0]? = some t) (hti : C.T t = some ti) (hd : ti.desc = .slice e) (hei : C.T e = some ei) (h1 : ts[1]? = some tx) (hxi : C.T tx = some xi) (hnx : ∀ k, xi.desc ≠ .int k)
    (hlen : (Builtin.lenOf vx).run C.P w = .ok n w)
    (hnew : (Builtin.firstCells ei.size n vx).run C.P { w with drawn := w.drawn + 1 } = .ok new { w with drawn := w.drawn + 1 })
    (hold : (Builtin.firstCells ei.size len (.slice base len c)).run C.P { w with drawn := w.drawn + 1 } = .ok old { w with drawn := w.drawn + 1 })
    (hneed : c < len + n) (hb : (2 * (len + n) + 192) * ei.bytes ≤ 2 ^ 48) (hlt : len + n < 2 ^ 62) (hzl : ei.zero.length = ei.size) :
    ∃ cap rest, len + n ≤ cap ∧ rest.size = (cap - (len + n)) * ei.size ∧
      (Builtin.append_ ts tr #[.slice base len c, vx]).run C.P w = .ok (.slice (some ⟨w.heap.size, 0, none⟩) (len + n) cap) { w with drawn := w.drawn + 1, heap := w.heap.push (.cells (old ++ new ++ rest) e) } := by
  obtain ⟨z, rz, hz⟩ := run_zero hC hei { w with drawn := w.drawn + 1 }
  have hzs : z.cells.size = ei.size := by have := (omap_rel (φ := ⟨fun _ => .unborn, fun _ => False⟩) (w := w) hz).1.length; rw [← hzl]; simpa using this
  obtain ⟨inf, rinf, hby, hsz⟩ := run_bytes hC hei w
  obtain ⟨inf', rinf', hby', hsz'⟩ := run_bytes hC hei { w with drawn := w.drawn + 1 }
  let cap := (Question.appendCap (len + n) c e).cut (w.tape w.drawn (.appendCap (len + n) c e))
  have hcap : len + n ≤ cap := by show len + n ≤ len + n + _ % _; omega
  refine ⟨cap, Builtin.zeroCells z.cells (cap - (len + n)), hcap, by simp [Builtin.zeroCells, hzs], ?_⟩
  have hmatch : ((xi.desc matches .int _) : Bool) = false := by
    generalize xi.desc = X at hnx
    cases X <;> first | rfl | exact absurd rfl (hnx _)
  have hcap2 := nextslicecap_le (len + n) c hneed
  have hg0 : (#[Value.slice base len c, vx] : Array Value)[0]? = some (.slice base len c) := rfl
  have hg1 : (#[Value.slice base len c, vx] : Array Value)[1]? = some vx := rfl
  have hb2 : ¬ (Builtin.nextslicecap (len + n) c * ei.bytes > 2 ^ 48) := by
    have : Builtin.nextslicecap (len + n) c * ei.bytes ≤ (2 * (len + n) + 192) * ei.bytes := Nat.mul_le_mul_right _ hcap2
    omega
  have hb1 : ¬ (((len + n : Nat) : Int) > IntKind.i64.max) := by
    show ¬ (((len + n : Nat) : Int) > 9223372036854775807)
    omega
  have hask : ∀ d, (askRoom d).run C.P { w with drawn := w.drawn + 1 } = .ok () { w with drawn := w.drawn + 1 } := fun d => run_askRoom _ _ _
  simp only [Builtin.append_, h0, hg0, hg1, h1, Sem.run_bind, run_und hC hti, hd, Result.andThen, run_size hC hei, run_und hC hxi, Sem.run_pure, hmatch, Bool.false_eq_true, if_false, hlen]
  rw [if_neg (by omega)]
  simp only [Sem.run_bind, rinf, Result.andThen, hb1, false_and, if_false, hby, hb2]
  simp only [Sem.run_bind, run_choose, Question.forced, Bool.false_eq_true, if_false, Result.andThen, rinf', hask, hold, Bool.not_false, if_true, hnew, rz, newRow, run_newObj, Sem.run_pure]
  rfl

theorem append_fits (hC : C.Ok) {ts : Array TypeId} {t e tx tr : TypeId} {ti ei xi : TyI} {a : Addr} {len c n : Nat} {vx : Value} {new : Array Value} {w₁ : World}
    (h0 : ts[0]? = some t) (hti : C.T t = some ti) (hd : ti.desc = .slice e) (hei : C.T e = some ei) (h1 : ts[1]? = some tx) (hxi : C.T tx = some xi) (hnx : ∀ k, xi.desc ≠ .int k)
    (hlen : (Builtin.lenOf vx).run C.P w = .ok n w) (hnew : (Builtin.firstCells ei.size n vx).run C.P w = .ok new w) (hneed : len + n ≤ c)
    (hst : (storeCells (a.add (len * ei.size)) new.toList).run C.P w = .ok () w₁) :
    (Builtin.append_ ts tr #[.slice (some a) len c, vx]).run C.P w = .ok (.slice (some a) (len + n) c) w₁ := by
  have hmatch : ((xi.desc matches .int _) : Bool) = false := by
    generalize xi.desc = X at hnx
    cases X <;> first | rfl | exact absurd rfl (hnx _)
  have hg0 : (#[Value.slice (some a) len c, vx] : Array Value)[0]? = some (.slice (some a) len c) := rfl
  have hg1 : (#[Value.slice (some a) len c, vx] : Array Value)[1]? = some vx := rfl
  simp only [Builtin.append_, h0, hg0, hg1, h1, Sem.run_bind, run_und hC hti, hd, Result.andThen, run_size hC hei, run_und hC hxi, Sem.run_pure, hmatch, Bool.false_eq_true, if_false, hlen]
  rw [if_pos hneed]
  simp only [Sem.run_bind, Bool.not_false, if_true, hnew, hst, Result.andThen, Sem.run_pure]

theorem append_none (hC : C.Ok) {ts : Array TypeId} {t e tx tr : TypeId} {ti ei xi : TyI} {base : Option Addr} {len c : Nat} {vx : Value} {new : Array Value}
    (h0 : ts[0]? = some t) (hti : C.T t = some ti) (hd : ti.desc = .slice e) (hei : C.T e = some ei) (h1 : ts[1]? = some tx) (hxi : C.T tx = some xi) (hnx : ∀ k, xi.desc ≠ .int k)
    (hlen : (Builtin.lenOf vx).run C.P w = .ok 0 w) (hnew : (Builtin.firstCells ei.size 0 vx).run C.P w = .ok new w) (hn : new = #[]) (hneed : len ≤ c) :
    (Builtin.append_ ts tr #[.slice base len c, vx]).run C.P w = .ok (.slice base len c) w := by
  have hmatch : ((xi.desc matches .int _) : Bool) = false := by
    generalize xi.desc = X at hnx
    cases X <;> first | rfl | exact absurd rfl (hnx _)
  have hg0 : (#[Value.slice base len c, vx] : Array Value)[0]? = some (.slice base len c) := rfl
  have hg1 : (#[Value.slice base len c, vx] : Array Value)[1]? = some vx := rfl
  subst hn
  simp only [Builtin.append_, h0, hg0, hg1, h1, Sem.run_bind, run_und hC hti, hd, Result.andThen, run_size hC hei, run_und hC hxi, Sem.run_pure, hmatch, Bool.false_eq_true, if_false, hlen]
  rw [if_pos (by omega)]
  simp only [Sem.run_bind, Bool.not_false, if_true, hnew, Result.andThen, Sem.run_pure]
  cases base <;> rfl

/-- the new row, related -/
theorem grow_sound (hC : C.Ok) {ts : Array TypeId} {t e tx tr : TypeId} {ti ei xi : TyI} {base : Option Addr} {len c n : Nat} {vx : Value} {x : AV} {xs old : List AV} {ψ : Env} {B : AH}
    (hA : HRel φ A w) (hB : HRel ψ B w) (hψ : Ext φ w ψ w)
    (h0 : ts[0]? = some t) (hti : C.T t = some ti) (hd : ti.desc = .slice e) (hei : C.T e = some ei) (h1 : ts[1]? = some tx) (hxi : C.T tx = some xi) (hnx : ∀ k, xi.desc ≠ .int k)
    (hsrc : srcA A ei.size x = some (xs, n)) (hx : VRel φ w x vx)
    (hold : ∀ d, ∃ vals, (Builtin.firstCells ei.size len (.slice base len c)).run C.P { w with drawn := d } = .ok vals { w with drawn := d } ∧ VRels φ { w with drawn := d } old vals.toList)
    (hol : old.length = len * ei.size) (hos : old.all AV.sc = true) (hxs : xs.all AV.sc = true)
    (hneed : c < len + n) (hb : (2 * (len + n) + 192) * ei.bytes ≤ 2 ^ 48) (hlt : len + n < 2 ^ 48) (hzl : ei.zero.length = ei.size) :
    EffTo C φ w (Builtin.append_ ts tr #[.slice base len c, vx]) (.slice B.next 0 (len + n) none ei.size) (B.alloc (.cells (old ++ xs))) := by
  obtain ⟨hlen, hxl, hfc⟩ := srcA_sound (C := C) hA hsrc hx
  obtain ⟨_, _, hfc2⟩ := srcA_sound (C := C) (hA.drawn (w.drawn + 1)) hsrc (VRel.ext (Ext.drawn _) _ _ hx)
  obtain ⟨newv, hnew, hnv⟩ := hfc2 n (Nat.le_refl _)
  rw [← hxl, List.take_length] at hnv
  obtain ⟨oldv, holdr, hov⟩ := hold (w.drawn + 1)
  obtain ⟨cap, rest, hcap, hrest, hrun⟩ := append_grows (tr := tr) hC h0 hti hd hei h1 hxi hnx hlen hnew holdr hneed hb (by omega) hzl
  have hwn : WNew w { w with drawn := w.drawn + 1, heap := w.heap.push (.cells (oldv ++ newv ++ rest) e) } (.cells (oldv ++ newv ++ rest) e) := ⟨rfl, rfl, rfl, rfl⟩
  have hE : Ext φ w (upd ψ B.next (.live w.heap.size 0)) { w with drawn := w.drawn + 1, heap := w.heap.push (.cells (oldv ++ newv ++ rest) e) } := hψ.trans (Ext.new hB hwn)
  have hE2 : Ext φ { w with drawn := w.drawn + 1 } (upd ψ B.next (.live w.heap.size 0)) { w with drawn := w.drawn + 1, heap := w.heap.push (.cells (oldv ++ newv ++ rest) e) } :=
    ⟨hE.mono, hE.keep, hE.lv, hE.shape, hE.size, hE.priv, hE.os, hE.tape, hE.output⟩
  have hvs : VRels (upd ψ B.next (.live w.heap.size 0)) { w with drawn := w.drawn + 1, heap := w.heap.push (.cells (oldv ++ newv ++ rest) e) } (old ++ xs) (oldv ++ newv).toList := by
    rw [Array.toList_append]; exact VRels.ext hE2 _ _ (hov.append hnv)
  have hsz1 : oldv.size = len * ei.size := by have := hov.length; rw [hol] at this; simpa using this
  have hsz2 : newv.size = n * ei.size := by have := hnv.length; rw [hxl] at this; simpa using this
  have hsz : (oldv ++ newv ++ rest).size = cap * ei.size := by
    rw [Array.size_append, Array.size_append, hsz1, hsz2, hrest, ← Nat.add_mul, ← Nat.add_mul]
    congr 1; omega
  refine ⟨_, _, _, hrun, hB.new hwn ⟨_, e, (0, 0), hwn.new, (by intro i _; simp), ?_, fun i v hi => ?_⟩, ?_, hE⟩
  · rw [hsz, List.length_append, hol, hxl, ← Nat.add_mul]
    have : (len + n) * ei.size ≤ cap * ei.size := Nat.mul_le_mul_right _ hcap
    omega
  · obtain ⟨y, hy, hr⟩ := hvs.get hi
    refine ⟨y, ?_, ?_, hr⟩
    · rw [Nat.zero_add, ← Array.getElem?_toList, Array.toList_append, List.getElem?_append_left]
      · exact hy
      · rcases Nat.lt_or_ge i (oldv ++ newv).toList.length with h | h
        · exact h
        · rw [List.getElem?_eq_none h] at hy; cases hy
    · rw [List.all_eq_true] at hos hxs
      rcases List.mem_append.1 (List.mem_of_getElem? hi) with h | h
      · exact hos v h
      · exact hxs v h
  · refine ⟨_, cap, rfl, by rw [upd_self]; exact fun _ => rfl, hcap, (by intro c0 h; cases h), fun _ => ?_, rfl⟩
    rw [upd_self]
    intro _
    refine ⟨e, cap * ei.size, ?_, by omega⟩
    simp only [World.shape?, hwn.new, hsz]

theorem aAppend_sound (hC : C.Ok) (hA : HRel φ A w) {ts : Array TypeId} {tr : TypeId} {s x v : AV} {vs vx : Value} {A' : AH} (he : aAppend C A ts s x = some (v, A'))
    (hs : VRel φ w s vs) (hx : VRel φ w x vx) : EffTo C φ w (Builtin.append_ ts tr #[vs, vx]) v A' := by
  obtain ⟨t, h0, he1⟩ := Option.bind_eq_some_iff.1 he
  obtain ⟨ti, hti, he2⟩ := Option.bind_eq_some_iff.1 he1
  clear he he1
  generalize hd : ti.desc = D at he2
  split at he2
  case h_2 => cases he2
  rename_i e
  obtain ⟨ei, hei, he3⟩ := Option.bind_eq_some_iff.1 he2
  obtain ⟨tx, h1, he4⟩ := Option.bind_eq_some_iff.1 he3
  obtain ⟨xi, hxi, he5⟩ := Option.bind_eq_some_iff.1 he4
  clear he2 he3 he4
  split at he5
  case isTrue => cases he5
  rename_i hni
  have hnx : ∀ k, xi.desc ≠ .int k := by
    intro k hk
    rw [hk] at hni
    exact hni rfl
  obtain ⟨⟨xs, n⟩, hsrc, he7⟩ := Option.bind_eq_some_iff.1 he5
  clear he5
  obtain ⟨hlen, hxl, hfc⟩ := srcA_sound (C := C) hA hsrc hx
  simp only at he7
  split at he7
  · -- nothing is appended
    rename_i hn0
    subst hn0
    obtain ⟨vals, hv1, hv2⟩ := hfc 0 (Nat.le_refl _)
    have hvn : vals = #[] := by
      have : vals.toList = [] := by simpa [VRels] using hv2
      rw [← Array.toArray_toList (xs := vals), this]
    split at he7
    case isFalse => cases he7
    rename_i hsl
    cases he7
    have hres : ∃ base len c, vs = .slice base len c ∧ len ≤ c := by
      cases s <;> simp [isSl] at hsl
      · obtain ⟨a, c, rfl, _, hl, _⟩ := hs; exact ⟨_, _, _, rfl, hl⟩
      · obtain ⟨a, c, rfl, hl, _⟩ := hs; exact ⟨_, _, _, rfl, hl⟩
    obtain ⟨base, len, c, rfl, hlc⟩ := hres
    exact ⟨_, w, φ, append_none hC h0 hti hd hei h1 hxi hnx hlen hv1 hvn hlc, hA, hs, Ext.refl _ _⟩
  · rename_i hn0
    split at he7
    case isFalse => cases he7
    rename_i hall
    obtain ⟨hsc, hzl⟩ := hall
    unfold aAppendTo at he7
    split at he7
    · rename_i β o len cap es
      split at he7
      case isFalse => cases he7
      rename_i hlim
      obtain ⟨hb, hlt, hes⟩ := hlim
      split at he7
      case h_2 => cases he7
      rename_i cs hg
      split at he7
      case isFalse => cases he7
      rename_i hocs
      obtain ⟨b, δ, hφ, hB⟩ := hA.liveOf hg
      obtain ⟨a, c, rfl, hok, hlc, hcap, hroom, hspot⟩ := hs
      have hβ : β < A.next := hA.lt hφ
      have hol : ((cs.drop o).take (len * ei.size)).length = len * ei.size := by
        rw [List.length_take, List.length_drop]; omega
      have hold : ∀ d, ∃ vals, (Builtin.firstCells ei.size len (.slice (some a) len c)).run C.P { w with drawn := d } = .ok vals { w with drawn := d } ∧
          VRels φ { w with drawn := d } ((cs.drop o).take (len * ei.size)) vals.toList := by
        intro d
        by_cases hl0 : len = 0
        · subst hl0
          refine ⟨#[], ?_, by simp [VRels]⟩
          simp only [Builtin.firstCells, Nat.zero_mul, loadCells, loadCellsFrom, Sem.run_pure]
        · obtain ⟨b', δ', hφ', hB'⟩ := (hA.drawn d).liveOf hg
          rw [hφ] at hφ'; cases hφ'
          rw [hφ] at hok
          have hok' : a = _ := hok (by omega)
          obtain ⟨vals, hr, hv, _⟩ := run_loadCells_at C.P ((hB'.cells.drop o).take (len * ei.size))
          rw [hol] at hr
          exact ⟨vals, by rw [hok']; exact hr, hv⟩
      -- in place
      have inplace : len + n ≤ c → ∃ vals : Array Value, (Builtin.firstCells ei.size n vx).run C.P w = .ok vals w ∧ VRels φ w xs vals.toList := by
        intro _
        obtain ⟨vals, hv1, hv2⟩ := hfc n (Nat.le_refl _)
        rw [← hxl, List.take_length] at hv2
        exact ⟨vals, hv1, hv2⟩
      split at he7
      · -- the capacity is known
        rename_i c0
        have hcc : c = c0 := hcap c0 rfl
        subst hcc
        split at he7
        · rename_i hfit
          split at he7
          case isFalse => cases he7
          rename_i hin
          cases he7
          obtain ⟨vals, hv1, hv2⟩ := inplace hfit
          rw [hφ] at hok
          have hok' : a = _ := hok (by omega)
          have hmul : (len + n) * ei.size = len * ei.size + n * ei.size := Nat.add_mul _ _ _
          obtain ⟨w₁, hr, hp, hBn⟩ := store_block (φ' := φ) (w₁ := w) (c := #[]) (c₁ := #[]) (t := 0) (fr := (0, 0)) (o := o + len * ei.size) C.P hB hv2 (by rw [List.all_eq_true] at hsc; exact hsc) (by omega) ⟨β, δ, hφ⟩
          refine ⟨_, w₁, φ, append_fits hC h0 hti hd hei h1 hxi hnx hlen hv1 hfit ?_, hA.put hφ hp hBn, ?_, Ext.put hp ⟨β, δ, hφ⟩⟩
          · rw [hok', add_at, Nat.add_assoc]; exact hr
          · refine ⟨a, c, rfl, by rw [hφ]; exact fun _ => hok', hfit, hcap, (by intro h; cases h), hspot⟩
        · rename_i hfit
          split at he7
          case isFalse => cases he7
          rename_i hos
          cases he7
          subst hes
          exact grow_sound hC hA hA (Ext.refl _ _) h0 hti hd hei h1 hxi hnx hsrc hx hold hol hos hsc (by omega) hb hlt hzl
      · -- the capacity is unknown
        split at he7
        case isFalse => cases he7
        rename_i hos
        cases he7
        subst hes
        by_cases hfit : len + n ≤ c
        · obtain ⟨vals, hv1, hv2⟩ := inplace hfit
          have hroom' := hroom rfl
          rw [hφ] at hok hroom'
          have hok' : a = _ := hok (by omega)
          obtain ⟨t', nn, hsh, hle⟩ := hroom' (by omega)
          obtain ⟨cc, t2, fr, hbk, hfz, hsz, hcs⟩ := hB
          have hnn : cc.size = nn := by simp only [World.shape?, hbk, Option.some.injEq, Prod.mk.injEq] at hsh; exact hsh.2
          have hmul : (len + n) * ei.size = len * ei.size + n * ei.size := Nat.add_mul _ _ _
          have hmul2 : (len + n) * ei.size ≤ c * ei.size := Nat.mul_le_mul_right _ hfit
          have hvl : vals.toList.length = n * ei.size := by rw [hv2.length, hxl]
          have hone : ∀ u ∈ vals.toList, u.oneCell' = true := by
            intro u hu
            obtain ⟨i, hi⟩ := List.getElem?_of_mem hu
            have hil : i < xs.length := by
              rw [hxl, ← hvl]
              rcases Nat.lt_or_ge i vals.toList.length with h | h
              · exact h
              · rw [List.getElem?_eq_none h] at hi; cases hi
            obtain ⟨y, hy, hr⟩ := hv2.get (List.getElem?_eq_getElem hil)
            rw [hi] at hy; cases hy
            rw [List.all_eq_true] at hsc
            exact hr.one (hsc _ (List.getElem_mem _))
          obtain ⟨w₁, c₁, hr, hp, hb1, hs1, hc1⟩ := run_storeCells C.P (δ + (o + len * ei.size)) vals.toList 0 cc w hbk hfz (by omega) hone
          refine ⟨.slice (some a) (len + n) c, w₁, upd (upd φ β .gone) A.next (.live b (δ + o)), append_fits hC h0 hti hd hei h1 hxi hnx hlen hv1 hfit ?_, hA.move hφ hp ?_, ?_, Ext.move hA hφ hp⟩
          · rw [hok', add_at, Nat.add_assoc]; exact hr
          · have hE := Ext.move (δ' := δ + o) hA hφ hp
            refine ⟨c₁, t2, fr, hb1, by rw [hs1]; exact hfz, ?_, fun i v hi => ?_⟩
            · rw [hs1, List.length_append, hol, hxl]; omega
            · rw [Nat.add_zero] at hc1
              have hget : c₁[δ + o + i]? = (cc.toList.take (δ + (o + len * ei.size)) ++ vals.toList ++ cc.toList.drop (δ + (o + len * ei.size) + vals.toList.length))[δ + o + i]? := by
                rw [← Array.getElem?_toList, hc1]
              have htl : (cc.toList.take (δ + (o + len * ei.size))).length = δ + (o + len * ei.size) := by simp; omega
              by_cases h1 : i < len * ei.size
              · rw [List.getElem?_append_left (by omega), List.getElem?_take_of_lt h1, List.getElem?_drop] at hi
                obtain ⟨y, ya, yb, yr⟩ := hcs _ v hi
                refine ⟨y, ?_, yb, VRel.ext hE _ _ yr⟩
                rw [hget, List.append_assoc, List.getElem?_append_left (by omega), List.getElem?_take_of_lt (by omega), Array.getElem?_toList, ← ya]
                congr 1; omega
              · rw [List.getElem?_append_right (by omega), hol] at hi
                obtain ⟨y, ya, yr⟩ := hv2.get hi
                have hlt2 : i - len * ei.size < vals.toList.length := by
                  rcases Nat.lt_or_ge (i - len * ei.size) vals.toList.length with h | h
                  · exact h
                  · rw [List.getElem?_eq_none h] at ya; cases ya
                refine ⟨y, ?_, ?_, VRel.ext hE _ _ yr⟩
                · rw [hget, List.append_assoc, List.getElem?_append_right (by omega), htl, List.getElem?_append_left (by omega), ← ya]
                  congr 1; omega
                · rw [List.all_eq_true] at hsc; exact hsc _ (List.mem_of_getElem? hi)
          · refine ⟨a, c, rfl, ?_, hfit, (by intro c0 h; cases h), fun _ => ?_, hspot⟩
            · rw [upd_self]; intro _; rw [hok']; simp
            · rw [upd_self]
              intro _
              exact ⟨t', nn, by rw [hp.shapes]; exact hsh, by omega⟩
        · exact grow_sound hC hA (hA.kill hβ) Ext.kill h0 hti hd hei h1 hxi hnx hsrc hx hold hol hos hsc (by omega) hb hlt hzl
    · rename_i nl len c0 cs
      split at he7
      case isFalse => cases he7
      rename_i hlim
      obtain ⟨hb, hlt, hneed, hcl, hos⟩ := hlim
      cases he7
      obtain ⟨a, c, rfl, hlc, hcap, hn, hy⟩ := hs
      have hcc : c = c0 := hcap c0 rfl
      subst hcc
      have hold : ∀ d, ∃ vals, (Builtin.firstCells ei.size len (.slice a len c)).run C.P { w with drawn := d } = .ok vals { w with drawn := d } ∧
          VRels φ { w with drawn := d } cs vals.toList := by
        intro d
        cases nl with
        | true =>
          obtain ⟨rfl, rfl, rfl⟩ := hn rfl
          have : cs = [] := List.length_eq_zero_iff.1 (by simpa using hcl)
          subst this
          exact ⟨#[], rfl, rfl⟩
        | false =>
          obtain ⟨a', rfl, hy'⟩ := hy rfl
          by_cases hl0 : len = 0
          · subst hl0
            have : cs = [] := List.length_eq_zero_iff.1 (by simpa using hcl)
            subst this
            refine ⟨#[], ?_, rfl⟩
            simp only [Builtin.firstCells, Nat.zero_mul, loadCells, loadCellsFrom, Sem.run_pure]
          obtain ⟨b, o, rfl, hc⟩ := hy' (by omega)
          obtain ⟨vals, hr, hv, _⟩ := run_loadCells_at C.P (CRel.ext (Ext.drawn d) b o cs hc).cells
          rw [hcl] at hr
          exact ⟨vals, hr, hv⟩
      exact grow_sound hC hA hA (Ext.refl _ _) h0 hti hd hei h1 hxi hnx hsrc hx hold hcl hos hsc hneed hb hlt hzl
    · cases he7
end
end Go.Am

namespace Go.Am
open Go
section
variable {C : Cx} {φ : Env} {A : AH} {w : World}

theorem aCopy_sound (hC : C.Ok) (hA : HRel φ A w) {ts : Array TypeId} {tr : TypeId} {d x v : AV} {vd vx : Value} {A' : AH} (he : aCopy C A ts d x = some (v, A'))
    (hd' : VRel φ w d vd) (hx : VRel φ w x vx) : EffTo C φ w (Builtin.copy_ ts tr #[vd, vx]) v A' := by
  obtain ⟨t, h0, he1⟩ := Option.bind_eq_some_iff.1 he
  obtain ⟨ti, hti, he2⟩ := Option.bind_eq_some_iff.1 he1
  clear he he1
  generalize hd : ti.desc = D at he2
  split at he2
  case h_2 => cases he2
  rename_i e
  obtain ⟨ei, hei, he3⟩ := Option.bind_eq_some_iff.1 he2
  obtain ⟨⟨xs, n⟩, hsrc, he4⟩ := Option.bind_eq_some_iff.1 he3
  clear he2 he3
  obtain ⟨hlen, hxl, hfc⟩ := srcA_sound (C := C) hA hsrc hx
  have hg0 : (#[vd, vx] : Array Value)[0]? = some vd := rfl
  have hg1 : (#[vd, vx] : Array Value)[1]? = some vx := rfl
  simp only at he4
  -- nothing to copy
  have zero : ∀ base len c, vd = .slice base len c → Nat.min n len = 0 → EffTo C φ w (Builtin.copy_ ts tr #[vd, vx]) (.int .i64 0) A := by
    intro base len c hvd hm
    obtain ⟨vals, hv1, hv2⟩ := hfc 0 (Nat.zero_le _)
    have hvn : vals = #[] := by
      have : vals.toList = [] := by simpa [VRels] using hv2
      rw [← Array.toArray_toList (xs := vals), this]
    subst hvn
    subst hvd
    refine ⟨.int .i64 0, w, φ, ?_, hA, rfl, Ext.refl _ _⟩
    simp only [Builtin.copy_, h0, hg0, hg1, Sem.run_bind, run_und hC hti, hd, Result.andThen, hlen, hm, run_size hC hei, hv1]
    cases base <;> rfl
  split at he4
  · rename_i β o len cap es
    obtain ⟨a, c, rfl, hok, hlc, hcap, hroom⟩ := hd'
    split at he4
    · rename_i hm
      cases he4
      exact zero _ _ _ rfl hm
    · rename_i hm
      split at he4
      case h_2 => cases he4
      rename_i cs hg
      split at he4
      case isFalse => cases he4
      rename_i hlim
      obtain ⟨hle, hsc, hyl⟩ := hlim
      cases he4
      obtain ⟨b, δ, hφ, hB⟩ := hA.liveOf hg
      have hmn : Nat.min n len ≤ n := Nat.min_le_left _ _
      have hml : Nat.min n len ≤ len := Nat.min_le_right _ _
      obtain ⟨vals, hv1, hv2⟩ := hfc _ hmn
      rw [hφ] at hok
      have hok' : a = _ := hok (by omega)
      subst hok'
      obtain ⟨w₁, hr, hp, hBn⟩ := store_block (φ' := φ) (w₁ := w) (c := #[]) (c₁ := #[]) (t := 0) (fr := (0, 0)) (o := o) C.P hB hv2 (by rw [List.all_eq_true] at hsc; exact hsc) (by omega) ⟨β, δ, hφ⟩
      refine ⟨.int .i64 (Nat.min n len : Nat), w₁, φ, ?_, hA.put hφ hp hBn, rfl, Ext.put hp ⟨β, δ, hφ⟩⟩
      simp only [Builtin.copy_, h0, hg0, hg1, Sem.run_bind, run_und hC hti, hd, Result.andThen, hlen, run_size hC hei, hv1, hr, Sem.run_pure, goInt]
  · rename_i nl len cap cs
    split at he4
    case isFalse => cases he4
    rename_i hm
    cases he4
    obtain ⟨a, c, rfl, _⟩ := hd'
    exact zero _ _ _ rfl hm
  · cases he4

theorem mapSet_sound (hC : C.Ok) (hA : HRel φ A w) {t : TypeId} {β : Nat} {k v : AV} {vk vv : Value} {es es' : List (AV × AV)} {r : Nat} {b δ : Nat} (hg : A.get β = some (.map es))
    (hφ : φ β = .live b δ) (he : aMapSet C t k v es = some es') (hk : VRel φ w k vk) (hv : VRel φ w v vv) :
    ∃ w', (Instr.mapUpdate t (.map (some b)) vk vv).run C.P w = .ok () w' ∧ HRel φ (A.put β (.map es')) w' ∧ Ext φ w φ w' := by
  obtain ⟨ti, hti, h1⟩ := Option.bind_eq_some_iff.1 he
  generalize hd : ti.desc = D at h1
  split at h1
  case h_2 => cases h1
  rename_i kt et
  split at h1
  case isFalse => cases h1
  rename_i hkey
  obtain ⟨r, hr, h2⟩ := Option.bind_eq_some_iff.1 h1
  obtain ⟨b', δ', hφ', hB⟩ := hA.liveOf hg
  rw [hφ] at hφ'; cases hφ'
  obtain ⟨hδ, ces, clk, hbk, hes, hpw, hclk⟩ := hB
  have hck := aKeyOk_sound (w := w) hC false _ _ _ _ hkey hk
  have hkt : ∃ i, C.T kt = some i := by
    cases hh : C.T kt with
    | none => simp [aKeyOk, hh] at hkey
    | some i => exact ⟨i, rfl⟩
  obtain ⟨i, hi⟩ := hkt
  obtain ⟨r', hr', hm'⟩ := findKey_sound hC hi hk hr hes
  have hgo : (getObj b).run C.P w = .ok (.map ces clk) w := by simp [getObj, Sem.run, hbk]
  have hsh : w.shape? b = none := by simp [World.shape?, hbk]
  cases r with
  | none =>
    have : r' = none := hm'
    subst this
    cases h2
    obtain ⟨hset, hput, hnew⟩ := setObj_put C.P (o' := .map (ces.push { key := vk, val := vv, born := clk }) (clk + 1)) hbk hsh (by simp)
    refine ⟨_, ?_, hA.put hφ hput ⟨hδ, _, _, hnew, ?_, ?_, ?_⟩, Ext.put hput ⟨β, δ, hφ⟩⟩
    · simp only [Instr.mapUpdate, Sem.run_bind, run_und hC hti, hd, Result.andThen, hgo, hck, hr']
      exact hset
    · rw [Array.toList_push]
      exact (ERel.ext (Ext.put hput ⟨β, δ, hφ⟩) _ _ hes).push (e := { key := vk, val := vv, born := clk }) (VRel.ext (Ext.put hput ⟨β, δ, hφ⟩) _ _ hk) (VRel.ext (Ext.put hput ⟨β, δ, hφ⟩) _ _ hv)
    · rw [Array.toList_push, List.pairwise_append]
      refine ⟨hpw, by simp, fun a ha b' hb' => ?_⟩
      simp at hb'; subst hb'; exact hclk a ha
    · intro e he
      rw [Array.toList_push, List.mem_append] at he
      rcases he with h | h
      · have := hclk e h; omega
      · simp at h; subst h; simp
  | some jv =>
    obtain ⟨j, u⟩ := jv
    obtain ⟨y, rfl, hy, ce, hce, hcy, k', hk', heq⟩ := hm'
    simp only at h2
    split at h2
    case isFalse => cases h2
    rename_i hsame
    cases h2
    simp only [Option.map_eq_some_iff] at hsame
    obtain ⟨e, hej, hsm⟩ := hsame
    obtain ⟨ce', hce', hke, hve⟩ := hes.get hej
    rw [hce] at hce'; cases hce'
    have hbits := aSameKey_sound hsm hke hk 9999
    have hcj : ces[j]? = some ce := by rw [← Array.getElem?_toList]; exact hce
    obtain ⟨hset, hput, hnew⟩ := setObj_put C.P (o' := .map (ces.modify j fun e => { e with key := vk, val := vv }) clk) hbk hsh (by simp)
    have hmod : (ces.modify j fun e => { e with key := vk, val := vv }).toList = ces.toList.set j { ce with key := vk, val := vv } := by
      rw [Array.toList_modify]
      apply List.ext_getElem?
      intro m
      simp only [List.getElem?_modify, List.getElem?_set]
      by_cases hmj : j = m
      · subst hmj
        rw [hce]
        have : j < ces.toList.length := by
          rcases Nat.lt_or_ge j ces.toList.length with h | h
          · exact h
          · rw [List.getElem?_eq_none h] at hce; cases hce
        have h2 : j < ces.size := by simpa using this
        simp [h2]
      · simp [hmj]
    refine ⟨_, ?_, hA.put hφ hput ⟨hδ, _, _, hnew, ?_, ?_, ?_⟩, Ext.put hput ⟨β, δ, hφ⟩⟩
    · simp only [Instr.mapUpdate, Sem.run_bind, run_und hC hti, hd, Result.andThen, hgo, hck, hr', hcj, Option.map_some, Option.getD_some, Instr.keyThatStays, hbits, if_true, Sem.run_pure]
      exact hset
    · rw [hmod]
      exact (ERel.ext (Ext.put hput ⟨β, δ, hφ⟩) _ _ hes).set j (e := { ce with key := vk, val := vv }) (VRel.ext (Ext.put hput ⟨β, δ, hφ⟩) _ _ hk) (VRel.ext (Ext.put hput ⟨β, δ, hφ⟩) _ _ hv)
    · rw [hmod]
      have : (ces.toList.set j { ce with key := vk, val := vv }).map (·.born) = ces.toList.map (·.born) := by
        rw [List.map_set]
        apply List.ext_getElem?
        intro m
        simp only [List.getElem?_set, List.getElem?_map]
        by_cases hmj : j = m
        · subst hmj
          have : j < ces.size := by
            rcases Nat.lt_or_ge j ces.toList.length with h | h
            · simpa using h
            · rw [List.getElem?_eq_none h] at hce; cases hce
          rw [hce]
          simp [this]
        · simp [hmj]
      refine (List.pairwise_map (f := MapEntry.born) (R := (· < ·))).1 ?_
      rw [this]
      exact (List.pairwise_map (f := MapEntry.born) (R := (· < ·))).2 hpw
    · intro e' he'
      rw [hmod] at he'
      rcases List.mem_or_eq_of_mem_set he' with h | h
      · exact hclk e' h
      · subst h; exact hclk ce (List.mem_of_getElem? hce)

theorem mapDel_sound (hC : C.Ok) (hA : HRel φ A w) {t tr : TypeId} {ts : Array TypeId} {β : Nat} {k : AV} {vk : Value} {es es' : List (AV × AV)} {b δ : Nat} (hg : A.get β = some (.map es)) (ht : ts[0]? = some t)
    (hφ : φ β = .live b δ) (he : aMapDel C t k es = some es') (hk : VRel φ w k vk) :
    ∃ w', (Builtin.delete_ ts tr #[.map (some b), vk]).run C.P w = .ok (.tuple #[]) w' ∧ HRel φ (A.put β (.map es')) w' ∧ Ext φ w φ w' := by
  obtain ⟨ti, hti, h1⟩ := Option.bind_eq_some_iff.1 he
  generalize hd : ti.desc = D at h1
  split at h1
  case h_2 => cases h1
  rename_i kt et
  split at h1
  case isFalse => cases h1
  rename_i hkey
  obtain ⟨r, hr, h2⟩ := Option.bind_eq_some_iff.1 h1
  obtain ⟨b', δ', hφ', hB⟩ := hA.liveOf hg
  rw [hφ] at hφ'; cases hφ'
  obtain ⟨hδ, ces, clk, hbk, hes, hpw, hclk⟩ := hB
  have hck := aKeyOk_sound (w := w) hC ces.isEmpty _ _ _ _ hkey hk
  have hkt : ∃ i, C.T kt = some i := by
    cases hh : C.T kt with
    | none => simp [aKeyOk, hh] at hkey
    | some i => exact ⟨i, rfl⟩
  obtain ⟨i, hi⟩ := hkt
  obtain ⟨r', hr', hm'⟩ := findKey_sound hC hi hk hr hes
  have hgo : (getObj b).run C.P w = .ok (.map ces clk) w := by simp [getObj, Sem.run, hbk]
  have hsh : w.shape? b = none := by simp [World.shape?, hbk]
  have hg0 : (#[Value.map (some b), vk] : Array Value)[0]? = some (.map (some b)) := rfl
  have hg1 : (#[Value.map (some b), vk] : Array Value)[1]? = some vk := rfl
  cases r with
  | none =>
    have : r' = none := hm'
    subst this
    cases h2
    obtain ⟨hset, hput, hnew⟩ := setObj_put C.P (o' := .map ces clk) hbk hsh (by simp)
    refine ⟨_, ?_, hA.put hφ hput ⟨hδ, _, _, hnew, ERel.ext (Ext.put hput ⟨β, δ, hφ⟩) _ _ hes, hpw, hclk⟩, Ext.put hput ⟨β, δ, hφ⟩⟩
    simp only [Builtin.delete_, ht, hg0, hg1, Sem.run_bind, run_und hC hti, hd, Result.andThen, hgo, hck, hr', hset, Sem.run_pure]
  | some jv =>
    obtain ⟨j, u⟩ := jv
    obtain ⟨y, rfl, hy, ce, hce, hcy, _⟩ := hm'
    cases h2
    obtain ⟨hset, hput, hnew⟩ := setObj_put C.P (o' := .map (ces.eraseIdxIfInBounds j) clk) hbk hsh (by simp)
    have her : (ces.eraseIdxIfInBounds j).toList = ces.toList.eraseIdx j := by
      have hj : j < ces.size := by
        rcases Nat.lt_or_ge j ces.toList.length with h | h
        · simpa using h
        · rw [List.getElem?_eq_none h] at hce; cases hce
      simp [Array.eraseIdxIfInBounds, hj]
    refine ⟨_, ?_, hA.put hφ hput ⟨hδ, _, _, hnew, ?_, ?_, ?_⟩, Ext.put hput ⟨β, δ, hφ⟩⟩
    · simp only [Builtin.delete_, ht, hg0, hg1, Sem.run_bind, run_und hC hti, hd, Result.andThen, hgo, hck, hr', hset, Sem.run_pure]
    · rw [her]; exact (ERel.ext (Ext.put hput ⟨β, δ, hφ⟩) _ _ hes).erase j
    · rw [her]; exact hpw.sublist (List.eraseIdx_sublist _ _)
    · intro e he'; rw [her] at he'; exact hclk e (List.mem_of_mem_eraseIdx he')

/-- what an operation with an effect comes to -/
def NextTo (C : Cx) (φ : Env) (w : World) (s : Sem Next) (v : AV) (A' : AH) : Prop :=
  ∃ y w' φ', (s.run C.P w = .ok (.value y) w' ∨ (s.run C.P w = .ok .skip w' ∧ y = undef)) ∧ HRel φ' A' w' ∧ VRel φ' w' v y ∧ Ext φ w φ' w'

theorem lift_e {s : Sem Value} {v : AV} {A' : AH} (h : EffTo C φ w s v A') : NextTo C φ w (do pure (.value (← s))) v A' := by
  obtain ⟨y, w', φ', hr, rest⟩ := h
  exact ⟨y, w', φ', .inl (by simp only [Sem.run_bind, hr, Result.andThen, Sem.run_pure]), rest⟩

theorem effOp_sound (hC : C.Ok) (hA : HRel φ A w) {ρ : Operand → Option AV} {ρ' : Operand → Value} (hρ : OpsRel φ w ρ ρ') {o : Oper} {v : AV} {A' : AH} (he : effOp C ρ o.op A = some (v, A')) :
    NextTo C φ w (execOp ρ' o) v A' := by
  have undefRel : ∀ φ w, VRel φ w (.tuple []) undef := fun φ w => ⟨#[], rfl, rfl⟩
  have mapCase : ∀ (t : TypeId) (m k x : Operand), ((ρ m).bind fun mv => (ρ k).bind fun kv => (ρ x).bind fun v => match mv with
      | .map β => (match A.get β with
        | some (.map es) => (aMapSet C t kv v es).map fun es' => (.tuple [], A.put β (.map es'))
        | _ => none)
      | _ => none) = some (v, A') → NextTo C φ w (do Instr.mapUpdate t (ρ' m) (ρ' k) (ρ' x); pure .skip) v A' := by
    intro t m k x h
    obtain ⟨mv, hm, h1⟩ := Option.bind_eq_some_iff.1 h
    obtain ⟨kv, hk, h2⟩ := Option.bind_eq_some_iff.1 h1
    obtain ⟨xv, hx, h3⟩ := Option.bind_eq_some_iff.1 h2
    split at h3
    case h_2 => cases h3
    rename_i β
    split at h3
    case h_2 => cases h3
    rename_i es hg
    simp only [Option.map_eq_some_iff] at h3
    obtain ⟨es', hes', he'⟩ := h3
    cases he'
    obtain ⟨b, δ, hφ, hB⟩ := hA.liveOf hg
    obtain ⟨r, hmr, hok⟩ := hρ _ _ hm
    rw [hφ] at hok
    obtain ⟨rfl, _⟩ := hok
    obtain ⟨w', hr, hA', hE⟩ := mapSet_sound (r := 0) hC hA hg hφ hes' (hρ _ _ hk) (hρ _ _ hx)
    refine ⟨undef, w', φ, .inr ⟨?_, rfl⟩, hA', undefRel _ _, hE⟩
    simp only [hmr, Sem.run_bind, hr, Result.andThen, Sem.run_pure]
  unfold effOp at he
  unfold execOp
  split at he
  · rename_i t a x e
    rw [e]
    obtain ⟨av, ha, h1⟩ := Option.bind_eq_some_iff.1 he
    obtain ⟨xv, hx, h2⟩ := Option.bind_eq_some_iff.1 h1
    obtain ⟨i, hi, h3⟩ := Option.bind_eq_some_iff.1 h2
    split at h3
    · cases h3
    · rename_i β o hnt
      split at h3
      case h_2 => cases h3
      rename_i cs hg
      split at h3
      case isFalse => cases h3
      rename_i hlim
      obtain ⟨h4, h5, h6⟩ := hlim
      cases h3
      obtain ⟨b, δ, hφ, hB⟩ := hA.liveOf hg
      obtain ⟨a', har, hok, -⟩ := hρ _ _ ha
      rw [hφ] at hok
      have hok' : a' = _ := hok
      subst hok'
      have hcells := (VRel.cells (hρ _ _ hx) (fun vs hv => hnt vs hv)).1
      obtain ⟨w₁, hr, hp, hBn⟩ := store_block (φ' := φ) (w₁ := w) (c := #[]) (c₁ := #[]) (t := 0) (fr := (0, 0)) (o := o) C.P hB hcells (by rw [List.all_eq_true] at h6; exact h6) h5 ⟨β, δ, hφ⟩
      refine ⟨undef, w₁, φ, .inr ⟨?_, rfl⟩, hA.put hφ hp hBn, undefRel _ _, Ext.put hp ⟨β, δ, hφ⟩⟩
      have hsz : (ρ' x).cells.size = i.size := by have := hcells.length; rw [h4] at this; simpa using this
      simp only [Instr.storeAt, har, Instr.sureAddr, Sem.run_bind, Sem.run_pure, Result.andThen, storeVar, run_size hC hi]
      rw [if_neg (by rw [hsz]; simp)]
      simp only [hr]
    · cases h3
  · rename_i t m k x e; rw [e]; exact mapCase t m k x he
  · rename_i t m k x e; rw [e]; exact mapCase t m k x he
  · rename_i it isS e
    rw [e]
    obtain ⟨itv, hit, h1⟩ := Option.bind_eq_some_iff.1 he
    split at h1
    case h_2 => cases h1
    rename_i β
    split at h1
    case h_2 => cases h1
    rename_i s pos hg
    obtain ⟨b, δ, hφ, hB⟩ := hA.liveOf hg
    obtain ⟨a', har, hok, -⟩ := hρ _ _ hit
    rw [hφ] at hok
    have hok' : a' = _ := hok
    obtain ⟨hδ, hbk⟩ := hB
    subst hδ
    subst hok'
    have hgo : (getObj b).run C.P w = .ok (.stringIter s pos) w := by simp [getObj, Sem.run, hbk]
    have hsh : w.shape? b = none := by simp [World.shape?, hbk]
    split at h1
    · rename_i hlt
      cases h1
      obtain ⟨hset, hput, hnew⟩ := setObj_put C.P (o' := .stringIter s (pos + (Utf8.decode s pos).2)) hbk hsh (by simp)
      refine lift_e ⟨_, _, φ, ?_, hA.put hφ hput ⟨rfl, hnew⟩, ⟨_, rfl, _, _, rfl, rfl, _, _, rfl, rfl, _, _, rfl, rfl, rfl⟩, Ext.put hput ⟨β, 0, hφ⟩⟩
      simp only [Instr.next, har, Sem.run_bind, hgo, Result.andThen, if_pos hlt, hset, Sem.run_pure, goInt]
    · rename_i hlt
      cases h1
      refine lift_e ⟨_, w, φ, ?_, hA, ⟨_, rfl, _, _, rfl, rfl, rfl⟩, Ext.refl _ _⟩
      simp only [Instr.next, har, Sem.run_bind, hgo, Result.andThen, if_neg hlt, Sem.run_pure]
  · rename_i b args ts e
    rw [e]
    obtain ⟨vs, hvs, h1⟩ := Option.bind_eq_some_iff.1 he
    have hr := omap_ops hρ hvs
    have two : ∀ a c, vs = [a, c] → ∃ x y, args.map ρ' = #[x, y] ∧ VRel φ w a x ∧ VRel φ w c y := by
      rintro a c rfl
      obtain ⟨x, l, e1, hx, y, l', e2, hy, e3⟩ := hr
      have : l' = [] := e3
      subst this
      exact ⟨x, y, by rw [← Array.toArray_toList (xs := args.map ρ'), Array.toList_map, e1, e2], hx, hy⟩
    have one : ∀ a, vs = [a] → ∃ x, args.map ρ' = #[x] ∧ VRel φ w a x := by
      rintro a rfl
      obtain ⟨x, l, e1, hx, e3⟩ := hr
      have : l = [] := e3
      subst this
      exact ⟨x, by rw [← Array.toArray_toList (xs := args.map ρ'), Array.toList_map, e1], hx⟩
    split at h1
    · rename_i s x
      obtain ⟨vs', vx', e2, hs', hx'⟩ := two _ _ rfl
      obtain ⟨y, w', φ', hrun, rest⟩ := aAppend_sound (tr := o.type) hC hA h1 hs' hx'
      refine ⟨y, w', φ', .inl ?_, rest⟩
      simp only [resolve, Sem.run_bind, Sem.run_pure, Result.andThen, invoke, builtin, e2, hrun]
    · rename_i s x
      obtain ⟨vs', vx', e2, hs', hx'⟩ := two _ _ rfl
      obtain ⟨y, w', φ', hrun, rest⟩ := aCopy_sound (tr := o.type) hC hA h1 hs' hx'
      refine ⟨y, w', φ', .inl ?_, rest⟩
      simp only [resolve, Sem.run_bind, Sem.run_pure, Result.andThen, invoke, builtin, e2, hrun]
    · rename_i m k
      obtain ⟨vm, vk, e2, hm, hk⟩ := two _ _ rfl
      obtain ⟨t, ht, h2⟩ := Option.bind_eq_some_iff.1 h1
      split at h2
      case h_2 => cases h2
      rename_i β
      split at h2
      case h_2 => cases h2
      rename_i es hg
      simp only [Option.map_eq_some_iff] at h2
      obtain ⟨es', hes', he'⟩ := h2
      cases he'
      obtain ⟨bb, δ, hφ, hB⟩ := hA.liveOf hg
      obtain ⟨r, rfl, hok⟩ := hm
      rw [hφ] at hok
      obtain ⟨rfl, _⟩ := hok
      obtain ⟨w', hrun, hA', hE⟩ := mapDel_sound (tr := o.type) hC hA hg ht hφ hes' hk
      refine ⟨_, w', φ, .inl ?_, hA', ⟨#[], rfl, rfl⟩, hE⟩
      simp only [resolve, Sem.run_bind, Sem.run_pure, Result.andThen, invoke, builtin, e2, hrun]
    · rename_i m
      obtain ⟨vm, e2, hm⟩ := one _ rfl
      obtain ⟨t, ht, h2⟩ := Option.bind_eq_some_iff.1 h1
      obtain ⟨ti, hti, h3⟩ := Option.bind_eq_some_iff.1 h2
      split at h3
      case h_2 => cases h3
      rename_i β
      split at h3
      case h_2 => cases h3
      rename_i es hg
      cases h3
      obtain ⟨bb, δ, hφ, hB⟩ := hA.liveOf hg
      obtain ⟨r, rfl, hok⟩ := hm
      rw [hφ] at hok
      obtain ⟨rfl, _⟩ := hok
      obtain ⟨hδ, ces, clk, hbk, _⟩ := hB
      have hgo : (getObj r).run C.P w = .ok (.map ces clk) w := by simp [getObj, Sem.run, hbk]
      have hsh : w.shape? r = none := by simp [World.shape?, hbk]
      obtain ⟨hset, hput, hnew⟩ := setObj_put C.P (o' := .map #[] clk) hbk hsh (by simp)
      refine ⟨_, _, φ, .inl ?_, hA.put hφ hput ⟨hδ, #[], clk, hnew, rfl, List.Pairwise.nil, by simp⟩, ⟨#[], rfl, rfl⟩, Ext.put hput ⟨β, δ, hφ⟩⟩
      have hg0 : (#[Value.map (some r)] : Array Value)[0]? = some (.map (some r)) := rfl
      simp only [resolve, Sem.run_bind, Sem.run_pure, Result.andThen, invoke, builtin, e2, Builtin.clear_, ht, hg0, run_und hC hti]
      generalize ti.desc = D
      cases D <;> simp only [Sem.run_bind, hgo, Result.andThen, hset, Sem.run_pure]
    · cases h1
  · cases he
end
end Go.Am

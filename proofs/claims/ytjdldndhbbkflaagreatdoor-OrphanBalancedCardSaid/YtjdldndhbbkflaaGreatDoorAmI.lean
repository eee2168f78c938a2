/- A part of the proof about cellularlaw49.OrphanBalanced: lemmas only; what they say is theirs alone and no condition of the claim. -/
import Derived.Test.YtjdldndhbbkflaaGreatDoorAmH
import Derived.Deep.Fields
import Derived.Carry
import Derived.WalkKit
import Derived.ProofKit
import Derived.OpenShut
set_option autoImplicit false
set_option linter.unusedVariables false
set_option linter.unusedSimpArgs false
noncomputable section
namespace Go.Am
open Go

/-! ## arguments read as data, related -/
def φ0 : Env := ⟨fun _ => .unborn, fun _ => False⟩
theorem im0 (b : Nat) : ¬ Im φ0 b := by
  rintro (⟨_, _, h⟩ | h)
  · cases h
  · exact h
theorem lv0 (b : Nat) : ¬ Lv φ0 b := by
  rintro ⟨_, _, h⟩
  cases h
theorem hrel0 (w : World) : HRel φ0 AH.empty w where
  born β := ⟨fun _ => by simp [AH.st, AH.empty, Trie.get], fun _ => rfl⟩
  fresh β _ := by simp [AH.st, AH.empty, Trie.get]
  blk β B h := by simp [AH.get, AH.empty, Trie.get] at h
  live β b δ h := by cases h
  inj β γ b δ δ' h := by cases h
  prv b h := h.elim
  dis b h := h.elim
/-- below the old size nothing has turned -/
theorem below_of_ext {φ' : Env} {w w' : World} (h : Ext φ0 w φ' w') : Go.RowKit.Below w.heap.size w w' :=
  ⟨h.os, h.tape, h.output, h.size, fun k hk => h.keep k hk (lv0 k)⟩
theorem grown_of_ext {φ' : Env} {w w' : World} (h : Ext φ0 w φ' w') : Go.RowKit.Below w.heap.size w w' := below_of_ext h

section
variable {H : Type} {enc : TypeId × Value → H} {P : Program} {w : World} {base : Nat} {spare : Nat → Bool} {held : Bool}

/-- cells in memory, related one by one -/
theorem crel_cells {b : Nat} : ∀ {l : List AV} {cs : List Value} {o : Nat}, VRels φ0 w l cs → l.all AV.sc = true → (∀ i, i < cs.length → w.cell? ⟨b, o + i, none⟩ = cs[i]?) → CRel φ0 w b o l
  | [], _, _, _, _, _ => trivial
  | a :: l, _, o, ⟨v, vs, rfl, h1, h2⟩, hs, hc => by
    simp only [List.all_cons, Bool.and_eq_true] at hs
    refine ⟨v, by simpa using hc 0 (by simp), im0 b, hs.1, h1, crel_cells h2 hs.2 fun i hi => ?_⟩
    have := hc (i + 1) (by simpa using hi)
    rw [show o + 1 + i = o + (i + 1) by omega, this]
    simp
theorem crel_app {φ : Env} {b : Nat} : ∀ {l m : List AV} {o : Nat}, CRel φ w b o l → CRel φ w b (o + l.length) m → CRel φ w b o (l ++ m)
  | [], m, o, _, h => by simpa using h
  | a :: l, m, o, ⟨v, h1, h2, h3, h4, h5⟩, h => ⟨v, h1, h2, h3, h4, crel_app h5 (by rw [show o + 1 + l.length = o + (l.length + 1) by omega]; exact h)⟩
theorem crel_flat {α : Type} {f : α → List AV} {es b : Nat} (hes : ∀ a, (f a).length = es) : ∀ {l : List α} {o : Nat}, (∀ (i : Nat) (a : α), l[i]? = some a → CRel φ0 w b (o + i * es) (f a)) → CRel φ0 w b o (l.flatMap f)
  | [], _, _ => trivial
  | a :: l, o, h => by
    rw [List.flatMap_cons]
    refine crel_app (by simpa using h 0 a rfl) ?_
    rw [hes]
    refine crel_flat hes fun i a' ha => ?_
    have := h (i + 1) a' (by simpa using ha)
    rw [show o + es + i * es = o + (i + 1) * es by rw [Nat.add_mul]; omega]
    exact this
/-- a list of what is there at each index -/
theorem list_of_each {α : Type} {p : Nat → α → Prop} : ∀ {n : Nat}, (∀ i, i < n → ∃ a, p i a) → ∃ l : List α, l.length = n ∧ ∀ (i : Nat) (a : α), l[i]? = some a → p i a
  | 0, _ => ⟨[], rfl, fun i a h => by simp at h⟩
  | n + 1, h => by
    obtain ⟨l, hl, hp⟩ := list_of_each (n := n) fun i hi => h i (by omega)
    obtain ⟨a, ha⟩ := h n (by omega)
    refine ⟨l ++ [a], by simp [hl], fun i b hb => ?_⟩
    rcases Nat.lt_trichotomy i n with h1 | h1 | h1
    · rw [List.getElem?_append_left (by omega)] at hb; exact hp i b hb
    · subst h1
      rw [List.getElem?_append_right (by omega), hl, Nat.sub_self] at hb
      cases hb; exact ha
    · rw [List.getElem?_eq_none (by simp; omega)] at hb; cases hb

/-- AN ELEMENT's READER: what reads as type e is some a, encoded -/
def Reader {α : Type} (enc : TypeId × Value → H) (P : Program) (w : World) (e : TypeId) (f : α → List AV) (Q : α → Prop) : Prop :=
  ∀ (n : Nat) (cs : List Value) (x : DataW H × List MemPlace), DataW.trod enc P w 0 (fun _ => true) true n e cs = some x → ∃ a, VRels φ0 w (f a) cs ∧ Q a

theorem read_int {t : TypeId} {k : IntKind} (ht : P.underlying t = some (.int k)) : Reader enc P w t (fun n : Int => [.int k n]) (fun n => k.min ≤ n ∧ n ≤ k.max) := by
  intro n cs x h
  obtain ⟨m, rfl, _, hw⟩ := DataW.trod_int ht h
  refine ⟨m, ⟨_, [], rfl, rfl, rfl⟩, ?_⟩
  simpa [Lit.wf, IntKind.has] using hw
theorem read_slice {α : Type} {t e : TypeId} {f : α → List AV} {Q : α → Prop} {es : Nat} (ht : P.underlying t = some (.slice e)) (hes : P.cellsOf e = es) (hpos : 0 < es) (hr : Reader enc P w e f Q) (hlen : ∀ a, (f a).length = es) (hsc : ∀ a, (f a).all AV.sc = true) :
    Reader enc P w t (fun s : Bool × List α => [.vec s.1 s.2.length none (s.2.flatMap f)]) (fun s => s.2.length ≤ 9223372036854775807 ∧ ∀ a ∈ s.2, Q a) := by
  intro n cs x h
  rcases Go.Deep.open_slice ht h with ⟨rfl, rfl⟩ | ⟨a, len, cap, m, n', D, Pl, rfl, hb, hl, hm, hmm, rfl, hx⟩
  · exact ⟨(true, []), ⟨_, [], rfl, ⟨none, 0, rfl, Nat.le_refl _, (by intro _ h; cases h), (fun _ => ⟨rfl, rfl, rfl⟩), (by intro h; cases h)⟩, rfl⟩, by simp, (by intro a h; cases h)⟩
  · rw [if_pos rfl] at hmm
    subst hmm
    obtain ⟨b, o, sp⟩ := a
    obtain ⟨l, hl1, hl2⟩ := list_of_each (n := len) (p := fun i a => Q a ∧ (sp = none → CRel φ0 w b (o + i * es) (f a))) fun i hi => by
      obtain ⟨cs', h1, h2⟩ := hx i (by omega)
      obtain ⟨a, ha, hq⟩ := hr _ _ _ h2
      refine ⟨a, hq, fun hs => ?_⟩
      subst hs
      obtain ⟨_, hcl, hcc⟩ := World.cells?_some h1
      rw [hes] at hcl hcc
      refine crel_cells ha (hsc a) fun j hj => ?_
      have := hcc j (by omega)
      rw [Go.WideShapes.add_plain, Go.WideShapes.add_plain] at this
      exact this
    have hm' : m ≤ 9223372036854775807 := hm
    refine ⟨(false, l), ⟨_, [], rfl, ⟨some ⟨b, o, sp⟩, m, by dsimp only; rw [hl1], by dsimp only; omega, (by intro _ h; cases h), (by intro h; cases h), (fun _ => ⟨_, rfl, fun hc => ?_⟩)⟩, rfl⟩, by dsimp only; omega, fun a ha => ?_⟩
    · have hspot : sp = none := by
        obtain ⟨cs', h1, _⟩ := hx 0 (by omega)
        obtain ⟨_, hcl, hcc⟩ := World.cells?_some h1
        rw [hes] at hcl hcc
        have h0 := hcc 0 hpos
        rw [List.getElem?_eq_getElem (by omega)] at h0
        simpa [Addr.add] using World.cell?_spot h0
      subst hspot
      exact ⟨b, o, rfl, crel_flat hlen fun i a hi => (hl2 i a hi).2 rfl⟩
    · obtain ⟨i, hi⟩ := List.getElem?_of_mem ha
      exact (hl2 i a hi).1
/-- a struct whose fields are one cell each: every field's reading -/
theorem read_fields {t : TypeId} {fs : Array Field} {n : Nat} {cs : List Value} {x : DataW H × List MemPlace} (ht : P.underlying t = some (.struct fs)) (hone : Go.Deep.oneCellFields P fs = true) (hC : P.cellsOf t = fs.size)
    (h : DataW.trod enc P w 0 (fun _ => true) true n t cs = some x) : cs.length = fs.size ∧ ∀ (i : Nat) (f : Field), fs[i]? = some f → ∃ c m y, cs[i]? = some c ∧ DataW.trod enc P w 0 (fun _ => true) true m f.type [c] = some y := by
  obtain ⟨xs, m, _, rfl, hcl, hxl, hf⟩ := DataW.trod_struct ht h
  rw [hC] at hcl
  refine ⟨hcl, fun i f hi => ?_⟩
  have hlt : i < fs.size := (Array.getElem?_eq_some_iff.1 hi).1
  obtain ⟨ho, hc1⟩ := Go.Deep.hone_of hone i f hi
  have g := hf i f hi
  rw [ho, hc1, Go.Deep.take1_drop cs i undef (by omega), List.getElem?_eq_getElem (by omega)] at g
  exact ⟨cs.getD i undef, m, _, by rw [List.getD_eq_getElem?_getD, List.getElem?_eq_getElem (by omega)]; rfl, g⟩
/-- two fields -/
theorem read_two {α β : Type} {t t0 t1 : TypeId} {fs : Array Field} {f0 : α → List AV} {f1 : β → List AV} {Q0 : α → Prop} {Q1 : β → Prop} (ht : P.underlying t = some (.struct fs)) (hone : Go.Deep.oneCellFields P fs = true) (hC : P.cellsOf t = fs.size)
    (hts : fs.map Field.type = #[t0, t1]) (h0 : Reader enc P w t0 f0 Q0) (h1 : Reader enc P w t1 f1 Q1) : Reader enc P w t (fun p : α × β => f0 p.1 ++ f1 p.2) (fun p => Q0 p.1 ∧ Q1 p.2) := by
  intro n cs x h
  obtain ⟨hl, hf⟩ := read_fields ht hone hC h
  have hsz : fs.size = 2 := by have := congrArg Array.size hts; simpa using this
  have e : ∀ i, (fs[i]?).map Field.type = #[t0, t1][i]? := fun i => by rw [← hts, Array.getElem?_map]
  match cs, hl with
  | [c0, c1], _ =>
    obtain ⟨g0, e0⟩ : ∃ g, fs[0]? = some g := ⟨fs[0], by simp⟩
    obtain ⟨g1, e1⟩ : ∃ g, fs[1]? = some g := ⟨fs[1], by simp⟩
    obtain ⟨c, m, y, hc, hy⟩ := hf 0 g0 e0
    obtain ⟨c', m', y', hc', hy'⟩ := hf 1 g1 e1
    cases hc; cases hc'
    have t0e := e 0; have t1e := e 1
    rw [e0] at t0e; rw [e1] at t1e
    simp at t0e t1e
    rw [t0e] at hy; rw [t1e] at hy'
    obtain ⟨a, ha, qa⟩ := h0 _ _ _ hy
    obtain ⟨b, hb, qb⟩ := h1 _ _ _ hy'
    exact ⟨(a, b), VRels.append ha hb, qa, qb⟩
  | [], hl => simp at hl; omega
  | [_], hl => simp at hl; omega
  | _ :: _ :: _ :: _, hl => simp at hl; omega
/-- three fields -/
theorem read_three {α β γ : Type} {t t0 t1 t2 : TypeId} {fs : Array Field} {f0 : α → List AV} {f1 : β → List AV} {f2 : γ → List AV} {Q0 : α → Prop} {Q1 : β → Prop} {Q2 : γ → Prop} (ht : P.underlying t = some (.struct fs)) (hone : Go.Deep.oneCellFields P fs = true) (hC : P.cellsOf t = fs.size)
    (hts : fs.map Field.type = #[t0, t1, t2]) (h0 : Reader enc P w t0 f0 Q0) (h1 : Reader enc P w t1 f1 Q1) (h2 : Reader enc P w t2 f2 Q2) : Reader enc P w t (fun p : α × β × γ => f0 p.1 ++ (f1 p.2.1 ++ f2 p.2.2)) (fun p => Q0 p.1 ∧ Q1 p.2.1 ∧ Q2 p.2.2) := by
  intro n cs x h
  obtain ⟨hl, hf⟩ := read_fields ht hone hC h
  have hsz : fs.size = 3 := by have := congrArg Array.size hts; simpa using this
  have e : ∀ i, (fs[i]?).map Field.type = #[t0, t1, t2][i]? := fun i => by rw [← hts, Array.getElem?_map]
  match cs, hl with
  | [c0, c1, c2], _ =>
    obtain ⟨g0, e0⟩ : ∃ g, fs[0]? = some g := ⟨fs[0], by simp⟩
    obtain ⟨g1, e1⟩ : ∃ g, fs[1]? = some g := ⟨fs[1], by simp⟩
    obtain ⟨g2, e2⟩ : ∃ g, fs[2]? = some g := ⟨fs[2], by simp⟩
    obtain ⟨c, m, y, hc, hy⟩ := hf 0 g0 e0
    obtain ⟨c', m', y', hc', hy'⟩ := hf 1 g1 e1
    obtain ⟨c'', m'', y'', hc'', hy''⟩ := hf 2 g2 e2
    cases hc; cases hc'; cases hc''
    have t0e := e 0; have t1e := e 1; have t2e := e 2
    rw [e0] at t0e; rw [e1] at t1e; rw [e2] at t2e
    simp at t0e t1e t2e
    rw [t0e] at hy; rw [t1e] at hy'; rw [t2e] at hy''
    obtain ⟨a, ha, qa⟩ := h0 _ _ _ hy
    obtain ⟨b, hb, qb⟩ := h1 _ _ _ hy'
    obtain ⟨d, hd, qd⟩ := h2 _ _ _ hy''
    exact ⟨(a, b, d), VRels.append ha (VRels.append hb hd), qa, qb, qd⟩
  | [], hl => simp at hl; omega
  | [_], hl => simp at hl; omega
  | [_, _], hl => simp at hl; omega
  | _ :: _ :: _ :: _ :: _, hl => simp at hl; omega
theorem Reader.mono {α β : Type} {e : TypeId} {f : α → List AV} {g : β → List AV} {Q : α → Prop} {R : β → Prop} (h : Reader enc P w e f Q) (hg : ∀ a, Q a → ∃ b, g b = f a ∧ R b) : Reader enc P w e g R := fun n cs x hx => by
  obtain ⟨a, ha, hq⟩ := h n cs x hx
  obtain ⟨b, e, hr⟩ := hg a hq
  exact ⟨b, by rw [e]; exact ha, hr⟩
end
end Go.Am

namespace Go.Am
open Go Go.ChangeShapes Go.WideShapes Go.RowKit
section
variable {H : Type} {enc : TypeId × Value → H} {P : Program}
/-- the same, where only what was there must keep its frozen range -/
theorem post_same {f : Func} {s : ChangeSpec} {apart fresh handsOn again : Bool} {W W' : World} {args : Array Value} {v : Value} {ds gs : List (DataW H)} {before pa pv : List MemPlace}
    (hW : DataW.Whole enc P f.params.toList s.vars apart W args.toList ds gs before)
    (hres : ∀ (b : Nat) (sp : Nat → Bool) (hd : Bool), DataW.TrodAll enc P W' b sp hd f.resultTypes.toList (v.resultList f.resultTypes.size) (s.fn H (ds ++ gs)).results [])
    (hargs : ∀ sp : Nat → Bool, (∀ p ∈ before, sp p.block = true) → DataW.TrodAll enc P W' 0 sp true f.params.toList args.toList (s.fn H (ds ++ gs)).args pa)
    (hvars : ∀ sp : Nat → Bool, (∀ p ∈ before, sp p.block = true) → DataW.TrodVars enc P W' sp s.vars (s.fn H (ds ++ gs)).vars pv)
    (hps : before = pa ++ pv) (hk : W.keptBut W' (· ∈ before)) (hfz : ∀ a : Addr, a.block < W.heap.size → W'.frozen? a = W.frozen? a)
    (hok : ∀ (j : Nat) (t : TypeId) (r : Value), f.resultTypes[j]? = some t → (v.resultList f.resultTypes.size)[j]? = some r → Value.okWide P W' .any 0 t r) :
    s.post enc P f apart fresh handsOn again W args v W' := by
  have hold : ∀ p ∈ before, (fun b => decide (b < W.heap.size)) p.block = true := fun p hp => by simpa using hW.lt p hp
  have hlt := hW.lt
  refine ⟨ds, gs, before, [], pa, pv, hW, hres _ _ _, hargs _ hold, hvars _ hold, World.keptBut_mono (fun p hp => ⟨hp, ?_⟩) hk, fun _ => ?_⟩
  · rw [hps, List.mem_append] at hp
    exact Or.inr hp
  · obtain ⟨_, _, _, _, _, hz, hn⟩ := hW
    refine ⟨hok, _, _, ([] ++ pa) ++ pv, ⟨[] ++ pa, pv, trodAll_append (hargs _ (fun _ _ => rfl)) (hres _ _ _), hvars _ (fun _ _ => rfl), rfl, ?_, ?_⟩, ?_⟩
    · intro b off hp
      have hp' : MemPlace.cell b off ∈ before := by rw [hps]; simpa using hp
      rw [hfz _ (hlt _ hp')]
      exact hz b off hp'
    · intro ha
      have := hn ha
      rw [hps] at this
      simpa using this
    · intro p hp _
      rw [hps]
      simpa using hp
/-- arguments stay as they read -/
theorem trodAll_stays (hl : laidOutB P = true) {W W' : World} (hb : Below W.heap.size W W') : ∀ {ts : List TypeId} {vs : List Value} {ds : List (DataW H)} {ps : List MemPlace}, (∀ t ∈ ts, P.readableRec t = true ∧ t < P.types.size) →
    DataW.TrodAll enc P W 0 (fun _ => true) true ts vs ds ps → (∀ p ∈ ps, p.block < W.heap.size) → ∀ sp : Nat → Bool, (∀ p ∈ ps, sp p.block = true) → DataW.TrodAll enc P W' 0 sp true ts vs ds ps
  | [], [], [], ps, _, h, _, sp, _ => h
  | t :: ts, v :: vs, d :: ds, ps, ht, ⟨p, q, h1, h2, e⟩, hlt, sp, hsp => by
    subst e
    exact ⟨p, q, WideElems.Trod_stays hl (ht t List.mem_cons_self).1 (ht t List.mem_cons_self).2 h1 (fun x hx => hb.same (hlt x (List.mem_append_left _ hx))) (fun x hx => hsp x (List.mem_append_left _ hx)),
      trodAll_stays hl hb (fun u hu => ht u (List.mem_cons_of_mem _ hu)) h2 (fun x hx => hlt x (List.mem_append_right _ hx)) sp (fun x hx => hsp x (List.mem_append_right _ hx)), rfl⟩
  | [], _ :: _, _, _, _, h, _, _, _ => h.elim
  | [], [], _ :: _, _, _, h, _, _, _ => h.elim
  | _ :: _, [], _, _, _, h, _, _, _ => h.elim
  | _ :: _, _ :: _, [], _, _, h, _, _, _ => h.elim
/-- A LAW's CONTRACT: the call answers true and turns nothing that was there -/
theorem post_true {f : Func} {s : ChangeSpec} {fresh handsOn again : Bool} {W W' : World} {φ' : Env} {args : Array Value} {ds gs : List (DataW H)} {before : List MemPlace} {tb : TypeId}
    (hW : DataW.Whole enc P f.params.toList s.vars false W args.toList ds gs before) (hs : s.vars = []) (hfn : (s.fn H (ds ++ gs)) = { results := [.lit (.bool true)], args := ds })
    (hr : f.resultTypes = #[tb]) (htb : P.underlying tb = some .bool) (hl : laidOutB P = true) (hts : ∀ t ∈ f.params.toList, P.readableRec t = true ∧ t < P.types.size) (hE : Ext φ0 W φ' W') :
    s.post enc P f false fresh handsOn again W args (.bool true) W' := by
  have hb := below_of_ext hE
  have hlt := hW.lt
  have hW' := hW
  obtain ⟨p, q, hA, hV, rfl, _, _⟩ := hW
  rw [hs] at hV
  obtain ⟨rfl, rfl⟩ := trodVars_none hV
  refine post_same (pa := p) (pv := []) hW' (fun b sp hd => ?_) (fun sp hsp => ?_) (fun sp _ => ?_) rfl (hb.frame _) (fun a ha => hb.frozen ha) (ok_one hr rfl (okWide_bool_mk htb _))
  · rw [hfn, hr]
    exact trodAll_cons_mk (shut_bool htb _) trodAll_mk0
  · rw [hfn]
    exact trodAll_stays hl hb hts hA (fun x hx => hlt x (List.mem_append_left _ hx)) sp (fun x hx => hsp x (List.mem_append_left _ hx))
  · rw [hfn, hs]
    exact rfl
end
end Go.Am

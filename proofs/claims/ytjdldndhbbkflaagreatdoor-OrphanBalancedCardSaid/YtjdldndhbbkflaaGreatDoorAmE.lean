/- A part of the proof about cellularlaw49.OrphanBalanced: lemmas only; what they say is theirs alone and no condition of the claim. -/
import Derived.Test.YtjdldndhbbkflaaGreatDoorAmD
import Derived.Scope
set_option autoImplicit false
set_option linter.unusedVariables false
set_option linter.unusedSimpArgs false
noncomputable section
namespace Go.Am
open Go

/-! ## frames -/
structure Fr where
  n : Nat
  t : Trie AV
namespace Fr
def get (fr : Fr) (i : Nat) : Option AV := fr.t.get i
def put (fr : Fr) (d : Option Nat) (v : AV) : Fr := match d with | some d => ⟨fr.n, fr.t.set d (some v)⟩ | none => fr
def fits (fr : Fr) (d : Option Nat) : Bool := match d with | some d => decide (d < fr.n) | none => true
theorem get_put (fr : Fr) (d : Option Nat) (v : AV) (i : Nat) : (fr.put d v).get i = if d = some i then some v else fr.get i := by
  cases d with
  | none => simp [put]
  | some d =>
    simp only [put, get, Trie.get_set, Option.some.injEq]
    by_cases e : i = d
    · subst e; simp
    · rw [if_neg e, if_neg (fun h => e h.symm)]
theorem n_put (fr : Fr) (d : Option Nat) (v : AV) : (fr.put d v).n = fr.n := by cases d <;> rfl
end Fr

def evalO (C : Cx) (fr : Fr) : Operand → Option AV
  | .tmp t => fr.get t
  | .const v => ofValue v
  | .global g => (C.G g).map .iptr
  | .func f => some (.func (.func f) [] [])

structure FRel (φ : Env) (w : World) (fr : Fr) (tmps : Array Value) : Prop where
  size : fr.n ≤ tmps.size
  val : ∀ i v, fr.get i = some v → ∃ x, tmps[i]? = some x ∧ VRel φ w v x
def GRel (C : Cx) (φ : Env) (w : World) : Prop := ∀ g cs, C.G g = some cs → CRel φ w g 0 cs

section
variable {C : Cx} {φ φ' : Env} {A : AH} {w w' : World} {fr : Fr}

theorem GRel.ext (h : GRel C φ w) (x : Ext φ w φ' w') : GRel C φ' w' := fun g cs hg => CRel.ext x g 0 cs (h g cs hg)
theorem FRel.ext {tmps : Array Value} (h : FRel φ w fr tmps) (x : Ext φ w φ' w') : FRel φ' w' fr tmps :=
  ⟨h.size, fun i v hv => by obtain ⟨y, a, b⟩ := h.val i v hv; exact ⟨y, a, VRel.ext x _ _ b⟩⟩
theorem FRel.put {a : Act} (h : FRel φ w fr a.tmps) {d : Option Nat} {v : AV} {y : Value} (hf : fr.fits d = true) (hv : VRel φ w v y) : FRel φ w (fr.put d v) (a.put d y).tmps := by
  cases d with
  | none => exact h
  | some d =>
    have hd : d < fr.n := by simpa [Fr.fits] using hf
    have hs := h.size
    refine ⟨by rw [Fr.n_put]; simpa [Act.put] using hs, fun i u hu => ?_⟩
    rw [Fr.get_put] at hu
    simp only [Act.put, Array.getElem?_setIfInBounds]
    split at hu
    · rename_i e
      cases e; cases hu
      exact ⟨y, by rw [if_pos rfl, if_pos (by omega)], hv⟩
    · rename_i e
      obtain ⟨x, a1, b1⟩ := h.val i u hu
      exact ⟨x, by rw [if_neg (fun h => e (by rw [h]))]; exact a1, b1⟩
theorem opsRel (hG : GRel C φ w) {a : Act} (h : FRel φ w fr a.tmps) : OpsRel φ w (evalO C fr) a.eval := by
  intro x u hu
  cases x with
  | tmp t =>
    obtain ⟨y, e, r⟩ := h.val t u hu
    simp only [Act.eval, Array.getD_eq_getD_getElem?, e, Option.getD_some]
    exact r
  | const v => exact ofValue_rel hu
  | global g =>
    simp only [evalO, Option.map_eq_some_iff] at hu
    obtain ⟨cs, hg, rfl⟩ := hu
    exact ⟨g, 0, rfl, hG g cs hg⟩
  | func f => cases hu; exact ⟨#[], #[], rfl, rfl, rfl⟩

/-! ## calls -/
/-- every call from related memory returns, related, and R holds -/
def ACall (C : Cx) (f : FuncId) (args : List AV) (A : AH) (R : AV → AH → Prop) : Prop :=
  (∃ fn c, C.P.funcs[f]? = some fn ∧ fn.body = some c ∧ (fn.name == "runtime.NumGoroutine") = false) ∧
  ∀ φ w vs, HRel φ A w → GRel C φ w → VRels φ w args vs.toList →
    Calls C.P f vs w fun e w' => ∃ y φ' r A', e = .returned y ∧ VRel φ' w' r y ∧ HRel φ' A' w' ∧ Ext φ w φ' w' ∧ R r A'

theorem ACall.mono {f : FuncId} {args : List AV} {R R' : AV → AH → Prop} (h : ACall C f args A R) (hr : ∀ r A', R r A' → R' r A') : ACall C f args A R' :=
  ⟨h.1, fun φ w vs a b c => (h.2 φ w vs a b c).mono fun e w' ⟨y, φ', r, A', p, q, s, t, u⟩ => ⟨y, φ', r, A', p, q, s, t, hr _ _ u⟩⟩

def callA (ρ : Operand → Option AV) (op : Op) : Option (FuncId × List AV) :=
  match op with
  | .call { callee := .value f, args, .. } => (ρ f).bind fun fv => match fv with
    | .func (.func g) first cap => (omap ρ args.toList).bind fun vs => some (g, first ++ vs ++ cap)
    | _ => none
  | _ => none

theorem callA_sound {ρ : Operand → Option AV} {ρ' : Operand → Value} (hρ : OpsRel φ w ρ ρ') {o : Oper} {f : FuncId} {args : List AV} (h : callA ρ o.op = some (f, args))
    (hf : ∃ fn c, C.P.funcs[f]? = some fn ∧ fn.body = some c ∧ (fn.name == "runtime.NumGoroutine") = false) :
    ∃ vs, (execOp ρ' o).run C.P w = .ok (.enter f vs) w ∧ VRels φ w args vs.toList := by
  unfold callA at h
  unfold execOp
  split at h
  · rename_i fo ars ts e
    rw [e]
    obtain ⟨fv, hfv, h1⟩ := Option.bind_eq_some_iff.1 h
    split at h1
    · rename_i g first cap
      obtain ⟨vs, hvs, h2⟩ := Option.bind_eq_some_iff.1 h1
      cases h2
      obtain ⟨fs, cs, hfe, hfs, hcs⟩ := hρ _ _ hfv
      obtain ⟨fn, c, h3, h4, h5⟩ := hf
      refine ⟨fs ++ ars.map ρ' ++ cs, ?_, ?_⟩
      · simp only [resolve, hfe, Deferred.ofValue, Sem.run_bind, Sem.run_pure, Result.andThen, invoke, callFunc, run_program, h3, h5, Bool.false_eq_true, if_false, h4, Option.isNone_some]
      · rw [Array.toList_append, Array.toList_append, Array.toList_map]
        exact (hfs.append (omap_ops hρ hvs)).append hcs
    · cases h1
  · cases h

/-! ## one operation -/
def RRes.val (A : AH) : RRes → Option AV
  | .imm v => some v
  | .at β f => (A.get β).bind f

def opWp (C : Cx) (A : AH) (ρ : Operand → Option AV) (o : Oper) (K : AV → AH → Prop) : Prop :=
  (∃ v, pureOp C ρ o.op = some v ∧ K v A) ∨ (∃ r v, readOp C ρ o.op = some r ∧ r.val A = some v ∧ K v A) ∨
  (∃ B mk, newOp C ρ o.op = some (B, mk) ∧ K (mk A.next) (A.alloc B)) ∨ (∃ v A', effOp C ρ o.op A = some (v, A') ∧ K v A') ∨
  (∃ f args, callA ρ o.op = some (f, args) ∧ ACall C f args A K)

theorem NewRel.step {B : ABlk} {mk : Nat → AV} {y : Value} {ob : Obj} (hA : HRel φ A w) (hw : WNew w w' ob) (h : NewRel φ w w' B mk y) :
    HRel (upd φ A.next (.live w.heap.size 0)) (A.alloc B) w' ∧ VRel (upd φ A.next (.live w.heap.size 0)) w' (mk A.next) y ∧ Ext φ w (upd φ A.next (.live w.heap.size 0)) w' := by
  have hx := Ext.new hA hw
  obtain ⟨hB, hv⟩ := h _ A.next hx (upd_self _ _ _)
  exact ⟨hA.new hw hB, hv, hx⟩

theorem opWp_sound (hC : C.Ok) {o : Oper} {K : AV → AH → Prop} {a : Act} {ρ : Operand → Option AV} (h : opWp C A ρ o K) (hA : HRel φ A w) (hG : GRel C φ w) (hρ : OpsRel φ w ρ a.eval)
    {next : Act → World → Prop} {Q : Exit → Act → World → Prop}
    (hn : ∀ y φ' v A' w', VRel φ' w' v y → HRel φ' A' w' → Ext φ w φ' w' → K v A' → next (a.put o.dst y) w') : o.wp C.P a w next Q := by
  unfold Oper.wp
  rcases h with ⟨v, hv, hk⟩ | ⟨r, v, hr, hv, hk⟩ | ⟨B, mk, hb, hk⟩ | ⟨v, A', he, hk⟩ | ⟨f, args, hf, hk⟩
  · obtain ⟨y, hy, hr⟩ := pureOp_sound hC hρ hv
    rw [hy]
    exact hn y φ v A w hr hA (Ext.refl _ _) hk
  · have hs := readOp_sound hC hρ hr
    cases r with
    | imm u =>
      cases hv
      obtain ⟨y, hy, hr⟩ := hs
      rw [hy]
      exact hn y φ _ A w hr hA (Ext.refl _ _) hk
    | «at» β f =>
      obtain ⟨B, hB, hf⟩ := Option.bind_eq_some_iff.1 hv
      obtain ⟨b, δ, hφ, hrel⟩ := hA.liveOf hB
      obtain ⟨y, hy, hr⟩ := hs b δ B v hφ hrel hf
      rw [hy]
      exact hn y φ v A w hr hA (Ext.refl _ _) hk
  · obtain ⟨y, w₁, ob, hy, hw, hnr⟩ := newOp_sound hC hρ hb
    obtain ⟨h1, h2, h3⟩ := hnr.step hA hw
    rw [hy]
    exact hn y _ _ _ _ h2 h1 h3 hk
  · obtain ⟨y, w', φ', hy, h1, h2, h3⟩ := effOp_sound hC hA hρ he
    rcases hy with hy | ⟨hy, rfl⟩
    · rw [hy]; exact hn y _ _ _ _ h2 h1 h3 hk
    · rw [hy]; exact hn undef _ _ _ _ h2 h1 h3 hk
  · obtain ⟨vs, hy, hv⟩ := callA_sound (C := C) hρ hf hk.1
    rw [hy]
    refine (hk.2 φ w vs hA hG hv).mono fun e w' ⟨y, φ', r, A', he, h1, h2, h3, h4⟩ => ?_
    subst he
    exact hn y φ' r A' w' h1 h2 h3 h4

/-! ## regions in the order of the text -/
def wantedA (ops : Array Oper) (fr : Fr) (o : Oper) : Option Bool :=
  match o.guard with
  | none => some true
  | some (j, want) => match (ops[j]?).bind (·.dst) with
    | none => some false
    | some d => match fr.get d with
      | some (.bool b) => some (b == want)
      | some _ => some false
      | none => none

theorem wantedA_sound {ops : Array Oper} {o : Oper} {a : Act} {b : Bool} (hF : FRel φ w fr a.tmps) (h : wantedA ops fr o = some b) : Region.wanted o (yielded ops a.tmps) = b := by
  unfold wantedA at h
  unfold Region.wanted
  split at h
  · rename_i e; rw [e]; cases h; rfl
  · rename_i j want e
    rw [e]
    simp only
    unfold yielded
    split at h
    · rename_i hd; rw [hd]; cases h; rfl
    · rename_i d hd
      rw [hd]
      split at h
      · rename_i c hc
        obtain ⟨x, hx, hr⟩ := hF.val d _ hc
        obtain rfl : x = _ := hr
        simp only [Option.bind_some, hx]
        cases h
        cases c <;> cases want <;> rfl
      · rename_i v hv hc
        obtain ⟨x, hx, hr⟩ := hF.val d _ hc
        simp only [Option.bind_some, hx]
        cases h
        cases x <;> first | rfl | exact absurd hr.inv_bool (by intro e; exact hv _ e)
      · cases h

def seqWp (C : Cx) (ops : Array Oper) (K : Fr → AH → Prop) : List Oper → Fr → AH → Prop
  | [], fr, A => K fr A
  | o :: rest, fr, A => fr.fits o.dst = true ∧ match wantedA ops fr o with
    | some true => opWp C A (evalO C fr) o fun v A' => seqWp C ops K rest (fr.put o.dst v) A'
    | some false => seqWp C ops K rest (fr.put o.dst (.tuple [])) A
    | none => False

/-- the post of a piece of code, from (φ₀, w₀) on -/
def Post (C : Cx) (D : List Deferred) (φ₀ : Env) (w₀ : World) (Q : Exit → Fr → AH → Prop) (e : Exit) (a : Act) (w : World) : Prop :=
  ∃ fr A φ, HRel φ A w ∧ FRel φ w fr a.tmps ∧ a.defers = D ∧ Ext φ₀ w₀ φ w ∧ Q e fr A

def AWp (C : Cx) (c : Code) (fr : Fr) (A : AH) (Q : Exit → Fr → AH → Prop) : Prop :=
  ∀ D φ w a, HRel φ A w → GRel C φ w → FRel φ w fr a.tmps → a.defers = D → c.wp C.P (Post C D φ w Q) a w

theorem Act.put_defers (a : Act) (d : Option Tmp) (v : Value) : (a.put d v).defers = a.defers := by cases d <;> rfl

theorem seqWp_sound (hC : C.Ok) {D : List Deferred} {ops : Array Oper} {Q : Exit → Fr → AH → Prop} {φ₀ : Env} {w₀ : World} : ∀ (l : List Oper) (fr : Fr) (A : AH) (φ : Env) (w : World) (a : Act),
    seqWp C ops (Q .normal) l fr A → HRel φ A w → GRel C φ w → FRel φ w fr a.tmps → a.defers = D → Ext φ₀ w₀ φ w → wpList C.P ops (Post C D φ₀ w₀ Q) l a w
  | [], fr, A, φ, w, a, h, hA, hG, hF, hD, hE => ⟨fr, A, φ, hA, hF, hD, hE, h⟩
  | o :: rest, fr, A, φ, w, a, h, hA, hG, hF, hD, hE => by
    obtain ⟨hfit, h⟩ := h
    simp only [wpList]
    cases hw : wantedA ops fr o with
    | none => rw [hw] at h; exact h.elim
    | some b =>
      rw [wantedA_sound hF hw]
      rw [hw] at h
      cases b with
      | true =>
        rw [if_pos rfl]
        left
        refine opWp_sound hC h hA hG (opsRel hG hF) fun y φ' v A' w' hv hA' hE' hk => ?_
        exact seqWp_sound hC rest _ A' φ' w' _ hk hA' (hG.ext hE') ((hF.ext hE').put hfit hv) (by rw [Act.put_defers]; exact hD) (hE.trans hE')
      | false =>
        rw [if_neg (by simp)]
        exact seqWp_sound hC rest _ A φ w _ h hA hG (hF.put hfit ⟨#[], rfl, rfl⟩) (by rw [Act.put_defers]; exact hD) hE

theorem AWp.region (hC : C.Ok) {id : Nat} {ops : Array Oper} {Q : Exit → Fr → AH → Prop} (h : seqWp C ops (Q .normal) ops.toList fr A) : AWp C (.region id ops false) fr A Q :=
  fun D φ w a hA hG hF hD => wp_region_list (seqWp_sound hC ops.toList fr A φ w a h hA hG hF hD (Ext.refl _ _))

theorem Post.mono {D : List Deferred} {φ₀ φ₁ : Env} {w₀ w₁ : World} {Q Q' : Exit → Fr → AH → Prop} (hE : Ext φ₀ w₀ φ₁ w₁) (hq : ∀ e fr A, Q e fr A → Q' e fr A) {e : Exit} {a : Act} {w : World} (h : Post C D φ₁ w₁ Q e a w) : Post C D φ₀ w₀ Q' e a w := by
  obtain ⟨fr, A, φ, h1, h2, h3, h4, h5⟩ := h
  exact ⟨fr, A, φ, h1, h2, h3, hE.trans h4, hq _ _ _ h5⟩

theorem AWp.mono {c : Code} {Q Q' : Exit → Fr → AH → Prop} (h : AWp C c fr A Q) (hq : ∀ e fr A, Q e fr A → Q' e fr A) : AWp C c fr A Q' :=
  fun D φ w a hA hG hF hD => wp_mono (h D φ w a hA hG hF hD) fun _ _ _ p => p.mono (Ext.refl _ _) hq
theorem AWp.skip {Q : Exit → Fr → AH → Prop} (h : Q .normal fr A) : AWp C .skip fr A Q := fun D φ w a hA hG hF hD => wp_skip ⟨fr, A, φ, hA, hF, hD, Ext.refl _ _, h⟩
theorem AWp.label {l : Nat} {Q : Exit → Fr → AH → Prop} (h : Q .normal fr A) : AWp C (.label l) fr A Q := fun D φ w a hA hG hF hD => wp_label ⟨fr, A, φ, hA, hF, hD, Ext.refl _ _, h⟩
theorem AWp.ret {Q : Exit → Fr → AH → Prop} (h : Q .ret fr A) : AWp C .ret fr A Q := fun D φ w a hA hG hF hD => wp_ret ⟨fr, A, φ, hA, hF, hD, Ext.refl _ _, h⟩
theorem AWp.exit {id : Nat} {Q : Exit → Fr → AH → Prop} (h : Q (.exit id) fr A) : AWp C (.exit id) fr A Q := fun D φ w a hA hG hF hD => wp_exit ⟨fr, A, φ, hA, hF, hD, Ext.refl _ _, h⟩
theorem AWp.goto {id : Nat} {Q : Exit → Fr → AH → Prop} (h : Q (.goto id) fr A) : AWp C (.goto id) fr A Q := fun D φ w a hA hG hF hD => wp_goto ⟨fr, A, φ, hA, hF, hD, Ext.refl _ _, h⟩

def thenA (next : Fr → AH → Prop) (Q : Exit → Fr → AH → Prop) : Exit → Fr → AH → Prop
  | .normal, fr, A => next fr A
  | e, fr, A => Q e fr A
theorem AWp.seq {x y : Code} {Q : Exit → Fr → AH → Prop} (h : AWp C x fr A (thenA (fun fr A => AWp C y fr A Q) Q)) : AWp C (.seq x y) fr A Q := by
  intro D φ w a hA hG hF hD
  refine wp_seq (wp_mono (h D φ w a hA hG hF hD) ?_)
  rintro e a' w' ⟨fr', A', φ', h1, h2, h3, h4, h5⟩
  cases e with
  | normal => exact wp_mono (h5 D φ' w' a' h1 (hG.ext h4) h2 h3) fun _ _ _ p => p.mono h4 fun _ _ _ q => q
  | _ => exact ⟨fr', A', φ', h1, h2, h3, h4, h5⟩
def blockA (id : Nat) (Q : Exit → Fr → AH → Prop) : Exit → Fr → AH → Prop
  | .exit id', fr, A => if id' = id then Q .normal fr A else Q (.exit id') fr A
  | e, fr, A => Q e fr A
theorem AWp.block {id : Nat} {c : Code} {Q : Exit → Fr → AH → Prop} (h : AWp C c fr A (blockA id Q)) : AWp C (.block id c) fr A Q := by
  intro D φ w a hA hG hF hD
  refine wp_block (wp_mono (h D φ w a hA hG hF hD) ?_)
  rintro e a' w' ⟨fr', A', φ', h1, h2, h3, h4, h5⟩
  cases e with
  | exit id' =>
    simp only [blockA] at h5
    simp only [Go.Exit.inBlock]
    split
    · rename_i hid; rw [if_pos hid] at h5; exact ⟨fr', A', φ', h1, h2, h3, h4, h5⟩
    · rename_i hid; rw [if_neg hid] at h5; exact ⟨fr', A', φ', h1, h2, h3, h4, h5⟩
  | _ => exact ⟨fr', A', φ', h1, h2, h3, h4, h5⟩
theorem AWp.cond {c : Operand} {x y : Code} {b : Bool} {Q : Exit → Fr → AH → Prop} (hc : evalO C fr c = some (.bool b)) (ht : b = true → AWp C x fr A Q) (hf : b = false → AWp C y fr A Q) :
    AWp C (.cond c x y) fr A Q := by
  intro D φ w a hA hG hF hD
  have : a.eval c = .bool b := opsRel hG hF c _ hc
  exact wp_cond_split this (fun e => ht e D φ w a hA hG hF hD) (fun e => hf e D φ w a hA hG hF hD)

/-- a state can be told with less -/
def Weak (C : Cx) (fr : Fr) (A : AH) (fr' : Fr) (A' : AH) : Prop :=
  ∀ φ w tmps, HRel φ A w → FRel φ w fr tmps → ∃ φ', HRel φ' A' w ∧ FRel φ' w fr' tmps ∧ Ext φ w φ' w
theorem Weak.refl (fr : Fr) (A : AH) : Weak C fr A fr A := fun φ w _ h k => ⟨φ, h, k, Ext.refl _ _⟩
theorem Weak.trans {fr₁ fr₂ : Fr} {A₁ A₂ : AH} (h : Weak C fr A fr₁ A₁) (k : Weak C fr₁ A₁ fr₂ A₂) : Weak C fr A fr₂ A₂ := fun φ w t a b => by
  obtain ⟨φ₁, a1, b1, e1⟩ := h φ w t a b
  obtain ⟨φ₂, a2, b2, e2⟩ := k φ₁ w t a1 b1
  exact ⟨φ₂, a2, b2, e1.trans e2⟩
theorem AWp.weak {c : Code} {fr' : Fr} {A' : AH} {Q : Exit → Fr → AH → Prop} (h : AWp C c fr' A' Q) (hw : Weak C fr A fr' A') : AWp C c fr A Q := by
  intro D φ w a hA hG hF hD
  obtain ⟨φ', h1, h2, h3⟩ := hw φ w a.tmps hA hF
  exact wp_mono (h D φ' w a h1 (hG.ext h3) h2 hD) fun _ _ _ p => p.mono h3 fun _ _ _ q => q
/-- frames that hold less -/
theorem Weak.sub {fr' : Fr} (hn : fr'.n = fr.n) (h : ∀ i v, fr'.get i = some v → fr.get i = some v) : Weak C fr A fr' A :=
  fun φ w t hA hF => ⟨φ, hA, ⟨by rw [hn]; exact hF.size, fun i v hv => hF.val i v (h i v hv)⟩, Ext.refl _ _⟩

theorem AWp.loop {σ : Type} {c : Code} {Q : Exit → Fr → AH → Prop} (frs : σ → Fr) (As : σ → AH) (μ : σ → Nat) (s₀ : σ) (h₀ : Weak C fr A (frs s₀) (As s₀))
    (round : ∀ s, AWp C c (frs s) (As s) (thenA (fun fr' A' => ∃ s', μ s' < μ s ∧ Weak C fr' A' (frs s') (As s')) Q)) : AWp C (.loop c) fr A Q := by
  intro D φ₀ w₀ a₀ hA₀ hG₀ hF₀ hD₀
  let I : Nat → Act → World → Prop := fun n a w => ∃ s φ, μ s = n ∧ HRel φ (As s) w ∧ FRel φ w (frs s) a.tmps ∧ a.defers = D ∧ Ext φ₀ w₀ φ w
  have key : ∀ n a w, I n a w → ∀ (b : Frame) (k : List Item) (cs : List Frame),
      ∃ e a' w', Post C D φ₀ w₀ Q e a' w' ∧ Arrives C.P (lone (b.at a (.code c :: .inLoop c :: k)) cs w) b k cs e a' w' := by
    intro n
    induction n using Nat.strongRecOn with
    | _ n ih =>
      rintro a w ⟨s, φ, hn, hA, hF, hD, hE⟩ b k cs
      obtain ⟨e, a₁, w₁, ⟨fr', A', φ', h1, h2, h3, h4, h5⟩, harr⟩ := round s D φ w a hA (hG₀.ext hE) hF hD b (.inLoop c :: k) cs
      cases e with
      | normal =>
        obtain ⟨s', hlt, hw⟩ := h5
        obtain ⟨φ'', g1, g2, g3⟩ := hw φ' w₁ a₁.tmps h1 h2
        obtain ⟨e₂, a₂, w₂, hq₂, harr₂⟩ := ih (μ s') (hn ▸ hlt) a₁ w₁ ⟨s', φ'', rfl, g1, g2, h3, hE.trans (h4.trans g3)⟩ b k cs
        exact ⟨e₂, a₂, w₂, hq₂, .of_steps (Steps.trans harr (.one step_inLoop)) harr₂⟩
      | exit id => exact ⟨_, a₁, w₁, ⟨fr', A', φ', h1, h2, h3, hE.trans h4, h5⟩, .pass (x := .inLoop c) rfl (fun _ _ => .inl (by simp)) harr⟩
      | goto l => exact ⟨_, a₁, w₁, ⟨fr', A', φ', h1, h2, h3, hE.trans h4, h5⟩, .pass (x := .inLoop c) rfl (fun _ _ => .inl (by simp)) harr⟩
      | ret => exact ⟨_, a₁, w₁, ⟨fr', A', φ', h1, h2, h3, hE.trans h4, h5⟩, .pass (x := .inLoop c) rfl (fun _ _ => .inl (by simp)) harr⟩
      | panic ch => exact ⟨_, a₁, w₁, ⟨fr', A', φ', h1, h2, h3, hE.trans h4, h5⟩, .pass (x := .inLoop c) rfl (fun _ _ => .inl (by simp)) harr⟩
      | outgrown => exact ⟨_, a₁, w₁, ⟨fr', A', φ', h1, h2, h3, hE.trans h4, h5⟩, .pass (x := .inLoop c) rfl (fun _ _ => .inl (by simp)) harr⟩
  intro b k cs
  obtain ⟨φ₁, g1, g2, g3⟩ := h₀ φ₀ w₀ a₀.tmps hA₀ hF₀
  obtain ⟨e, a', w', hq, harr⟩ := key _ a₀ w₀ ⟨s₀, φ₁, rfl, g1, g2, hD₀, g3⟩ b k cs
  exact ⟨e, a', w', hq, .of_steps (.one step_loop) harr⟩
end
end Go.Am

namespace Go.Am
open Go

/-! ## what a value speaks of -/
mutual
def ment (id : Nat) : AV → Bool
  | .ptr β _ => β == id
  | .slice β _ _ _ _ => β == id
  | .map β => β == id
  | .iptr cs => ments id cs
  | .vec _ _ _ cs => ments id cs
  | .func _ a b => ments id a || ments id b
  | .iface _ v => ment id v
  | .agg cs => ments id cs
  | .tuple cs => ments id cs
  | _ => false
def ments (id : Nat) : List AV → Bool
  | [] => false
  | c :: cs => ment id c || ments id cs
end

/-- φ' tells less than φ: the blocks in H are unborn -/
structure Less (φ φ' : Env) (H : Nat → Prop) : Prop where
  same : ∀ β, ¬ H β → φ' β = φ β
  im : ∀ b, Im φ' b → Im φ b

theorem Loc.ok.less {φ φ' : Env} {H : Nat → Prop} (h : Less φ φ' H) {β : Nat} (hn : ¬ H β) {p : Nat → Nat → Prop} (x : (φ β).ok p) : (φ' β).ok p := by rw [h.same β hn]; exact x
mutual
theorem VRel.less {φ φ' : Env} {w : World} {H : Nat → Prop} (h : Less φ φ' H) : ∀ (a : AV) (v : Value), (∀ i, H i → ment i a = false) → VRel φ w a v → VRel φ' w a v
  | .bool _, _, _, x => x
  | .int _ _, _, _, x => x
  | .str _, _, _, x => x
  | .nilptr, _, _, x => x
  | .ptr β _, _, n, ⟨a, e, x, sp⟩ => ⟨a, e, x.less h (fun hb => by have := n β hb; simp [ment] at this), sp⟩
  | .iptr cs, _, n, ⟨b, o, e, x⟩ => ⟨b, o, e, CRel.less h b o cs (fun i hi => by have := n i hi; simpa [ment] using this) x⟩
  | .slice β _ _ _ _, _, n, ⟨a, c, e, x, r, q, z, sp⟩ => ⟨a, c, e, x.less h (fun hb => by have := n β hb; simp [ment] at this), r, q, fun hc => (z hc).less h (fun hb => by have := n β hb; simp [ment] at this), sp⟩
  | .vec _ _ _ cs, _, n, ⟨a, c, e, l, r, x, y⟩ => ⟨a, c, e, l, r, x, fun hn => by obtain ⟨a', e', z'⟩ := y hn; exact ⟨a', e', fun hc => by obtain ⟨b, o, e, z⟩ := z' hc; exact ⟨b, o, e, CRel.less h b o cs (fun i hi => by have := n i hi; simpa [ment] using this) z⟩⟩⟩
  | .nilmap, _, _, x => x
  | .map β, _, n, ⟨r, e, x⟩ => ⟨r, e, x.less h (fun hb => by have := n β hb; simp [ment] at this)⟩
  | .func _ first cap, _, n, ⟨vs, ws, e, x, y⟩ => ⟨vs, ws, e, VRels.less h first _ (fun i hi => by have := n i hi; simp [ment] at this; exact this.1) x, VRels.less h cap _ (fun i hi => by have := n i hi; simp [ment] at this; exact this.2) y⟩
  | .nilFunc, _, _, x => x
  | .iface _ v, _, n, ⟨y, e, x⟩ => ⟨y, e, VRel.less h v y (fun i hi => by have := n i hi; simpa [ment] using this) x⟩
  | .nilIface, _, _, x => x
  | .agg cs, _, n, ⟨vs, e, x⟩ => ⟨vs, e, VRels.less h cs _ (fun i hi => by have := n i hi; simpa [ment] using this) x⟩
  | .tuple cs, _, n, ⟨vs, e, x⟩ => ⟨vs, e, VRels.less h cs _ (fun i hi => by have := n i hi; simpa [ment] using this) x⟩
theorem VRels.less {φ φ' : Env} {w : World} {H : Nat → Prop} (h : Less φ φ' H) : ∀ (a : List AV) (v : List Value), (∀ i, H i → ments i a = false) → VRels φ w a v → VRels φ' w a v
  | [], _, _, x => x
  | c :: cs, _, n, ⟨y, ys, e, a, b⟩ => ⟨y, ys, e, VRel.less h c y (fun i hi => by have := n i hi; simp [ments] at this; exact this.1) a, VRels.less h cs ys (fun i hi => by have := n i hi; simp [ments] at this; exact this.2) b⟩
theorem CRel.less {φ φ' : Env} {w : World} {H : Nat → Prop} (h : Less φ φ' H) (b : Nat) : ∀ (o : Nat) (a : List AV), (∀ i, H i → ments i a = false) → CRel φ w b o a → CRel φ' w b o a
  | _, [], _, x => x
  | o, c :: cs, n, ⟨y, e, m, s, a, r⟩ =>
    ⟨y, e, fun x => m (h.im b x), s, VRel.less h c y (fun i hi => by have := n i hi; simp [ments] at this; exact this.1) a, CRel.less h b (o + 1) cs (fun i hi => by have := n i hi; simp [ments] at this; exact this.2) r⟩
end
def mentB (id : Nat) : ABlk → Bool
  | .cells cs => ments id cs
  | .map es => es.any fun e => ment id e.1 || ment id e.2
  | .siter _ _ => false
theorem ments_get {id : Nat} : ∀ {cs : List AV} {i : Nat} {v : AV}, ments id cs = false → cs[i]? = some v → ment id v = false
  | [], _, _, _, h => by simp at h
  | c :: cs, 0, v, h, e => by simp at e; subst e; simp [ments] at h; exact h.1
  | c :: cs, i + 1, v, h, e => by simp [ments] at h; exact ments_get h.2 (by simpa using e)
theorem ERel.less {φ φ' : Env} {w : World} {H : Nat → Prop} (h : Less φ φ' H) : ∀ (l : List (AV × AV)) (es : List MapEntry), (∀ i, H i → (l.any fun e => ment i e.1 || ment i e.2) = false) → ERel φ w l es → ERel φ' w l es
  | [], _, _, x => x
  | (k, v) :: l, _, n, ⟨e, es', he, a, b, c⟩ => ⟨e, es', he, VRel.less h k _ (fun i hi => by have := n i hi; rw [List.any_cons, Bool.or_eq_false_iff, Bool.or_eq_false_iff] at this; exact this.1.1) a,
      VRel.less h v _ (fun i hi => by have := n i hi; rw [List.any_cons, Bool.or_eq_false_iff, Bool.or_eq_false_iff] at this; exact this.1.2) b, ERel.less h l es' (fun i hi => by have := n i hi; rw [List.any_cons, Bool.or_eq_false_iff] at this; exact this.2) c⟩
theorem BRel.less {φ φ' : Env} {w : World} {H : Nat → Prop} (h : Less φ φ' H) {B : ABlk} {b δ : Nat} (n : ∀ i, H i → mentB i B = false) (x : BRel φ w B b δ) : BRel φ' w B b δ := by
  cases B with
  | cells cs =>
    obtain ⟨c, t, fr, e, f, l, r⟩ := x
    exact ⟨c, t, fr, e, f, l, fun i v hv => by obtain ⟨y, a, s, q⟩ := r i v hv; exact ⟨y, a, s, VRel.less h v y (fun j hj => ments_get (n j hj) hv) q⟩⟩
  | map es =>
    obtain ⟨d, ces, k, e, r, p⟩ := x
    exact ⟨d, ces, k, e, ERel.less h es _ n r, p⟩
  | siter s p => exact x

/-! ## what stands before what -/
def opTmps (o : Oper) : List Nat := o.op.operands.toList.filterMap fun x => match x with | .tmp t => some t | _ => none
def evalR (C : Cx) (fr : Fr) (ts : List Nat) : Operand → Option AV
  | .tmp t => if ts.contains t then fr.get t else none
  | .const v => ofValue v
  | .global g => (C.G g).map .iptr
  | .func f => some (.func (.func f) [] [])
def isE (o : Oper) : Bool :=
  match o.op with
  | .move _ | .assign _ | .pick .. | .build .. | .nilCheck _ | .binOp .. | .unOp .. | .convert .. | .makeInterface .. | .makeFunc .. | .slice .. | .fieldAddr .. | .field .. | .indexAddr .. | .index .. | .extract ..
  | .load .. | .lookup .. | .alloc _ | .box .. | .buildSlice .. | .makeSlice .. | .makeMap .. | .range .. => false
  | .call { callee := .builtin b, .. } => match b with | .len | .cap | .min | .max => false | _ => true
  | _ => true

def edgeMask (acc : List Nat) (s : Nat) (e : Edge) : Nat := if Region.binds .any e then s ||| 2 ^ e.on ||| acc.getD e.on 0 else s
def maskOf (acc : List Nat) (o : Oper) : Nat := o.after.toList.foldl (edgeMask acc) 0
/-- k n, with n worked out first -/
def forceN {α : Type} (n : Nat) (k : Nat → α) : α := match n with | 0 => k 0 | m + 1 => k (m + 1)
theorem forceN_eq {α : Type} (n : Nat) (k : Nat → α) : forceN n k = k n := by cases n <;> rfl
def masksF : List Oper → List Nat → List Nat
  | [], acc => acc
  | o :: l, acc => forceN (maskOf acc o) fun m => masksF l (acc ++ [m])

theorem masksF_length : ∀ (l : List Oper) (acc : List Nat), (masksF l acc).length = acc.length + l.length
  | [], acc => by simp [masksF]
  | o :: l, acc => by simp [masksF, forceN_eq, masksF_length l]; omega
theorem masksF_old : ∀ (l : List Oper) (acc : List Nat) (i : Nat), i < acc.length → (masksF l acc)[i]? = acc[i]?
  | [], acc, i, h => rfl
  | o :: l, acc, i, h => by
    rw [masksF, forceN_eq, masksF_old l _ i (by simp; omega), List.getElem?_append_left h]
theorem masksF_at : ∀ (l : List Oper) (acc : List Nat) (j : Nat) (o : Oper), l[j]? = some o → (masksF l acc)[acc.length + j]? = some (maskOf ((masksF l acc).take (acc.length + j)) o)
  | [], acc, j, o, h => by simp at h
  | p :: l, acc, 0, o, h => by
    simp at h; subst h
    have h1 := masksF_old l (acc ++ [maskOf acc p]) acc.length (by simp)
    have h2 : (masksF l (acc ++ [maskOf acc p])).take acc.length = acc := by
      apply List.ext_getElem?
      intro i
      by_cases hi : i < acc.length
      · rw [List.getElem?_take_of_lt hi, masksF_old _ _ _ (by simp; omega), List.getElem?_append_left hi]
      · rw [List.getElem?_eq_none (by simp; omega), List.getElem?_eq_none (by omega)]
    simp only [masksF, forceN_eq, Nat.add_zero]
    rw [h1, h2]; simp
  | p :: l, acc, j + 1, o, h => by
    have := masksF_at l (acc ++ [maskOf acc p]) j o (by simpa using h)
    simp only [masksF, forceN_eq]
    rw [List.length_append, List.length_singleton] at this
    rw [show acc.length + (j + 1) = acc.length + 1 + j by omega]
    exact this

theorem edge_fold (acc : List Nat) (i : Nat) : ∀ (l : List Edge) (s : Nat), (l.foldl (edgeMask acc) s).testBit i = true ↔ s.testBit i = true ∨ ∃ e ∈ l, Region.binds .any e = true ∧ (e.on = i ∨ (acc.getD e.on 0).testBit i = true)
  | [], s => by simp
  | e :: l, s => by
    rw [List.foldl_cons, edge_fold acc i l]
    unfold edgeMask
    by_cases hb : Region.binds .any e = true
    · rw [if_pos hb]
      simp only [Nat.testBit_or, Nat.testBit_two_pow, Bool.or_eq_true, decide_eq_true_eq, List.mem_cons]
      constructor
      · rintro (((h | h) | h) | ⟨e', h1, h2⟩)
        · exact .inl h
        · exact .inr ⟨e, .inl rfl, hb, .inl h⟩
        · exact .inr ⟨e, .inl rfl, hb, .inr h⟩
        · exact .inr ⟨e', .inr h1, h2⟩
      · rintro (h | ⟨e', rfl | h1, h2, h3⟩)
        · exact .inl (.inl (.inl h))
        · rcases h3 with h3 | h3
          · exact .inl (.inl (.inr h3))
          · exact .inl (.inr h3)
        · exact .inr ⟨e', h1, h2, h3⟩
    · rw [if_neg hb]
      constructor
      · rintro (h | ⟨e', h1, h2⟩)
        · exact .inl h
        · exact .inr ⟨e', by simp [h1], h2⟩
      · rintro (h | ⟨e', h1, h2, h3⟩)
        · exact .inl h
        · rcases List.mem_cons.1 h1 with rfl | h1
          · exact absurd h2 hb
          · exact .inr ⟨e', h1, h2, h3⟩

/-- i stands directly before j, whatever the order -/
def Pred (ops : Array Oper) (j i : Nat) : Prop := ∃ o, ops[j]? = some o ∧ ∃ e ∈ o.after.toList, Region.binds .any e = true ∧ e.on = i
def msOf (ops : Array Oper) : List Nat := masksF ops.toList []

theorem ms_iff {ops : Array Oper} (hlt : ∀ j i, Pred ops j i → i < j) (j i : Nat) : ((msOf ops).getD j 0).testBit i = true ↔ ∃ k, Pred ops j k ∧ (k = i ∨ ((msOf ops).getD k 0).testBit i = true) := by
  cases hj : ops[j]? with
  | none =>
    have h1 : (msOf ops)[j]? = none := by
      apply List.getElem?_eq_none
      rw [msOf, masksF_length]
      rw [Array.getElem?_eq_none_iff] at hj
      simpa using hj
    rw [List.getD_eq_getElem?_getD, h1]
    simp only [Option.getD_none, Nat.zero_testBit, Bool.false_eq_true, false_iff]
    rintro ⟨k, ⟨o, ho, _⟩, _⟩
    rw [hj] at ho; cases ho
  | some o =>
    have hjl : ops.toList[j]? = some o := by rw [Array.getElem?_toList]; exact hj
    have h1 := masksF_at ops.toList [] j o hjl
    simp only [List.length_nil, Nat.zero_add] at h1
    have h2 : (msOf ops).getD j 0 = maskOf ((msOf ops).take j) o := by rw [List.getD_eq_getElem?_getD, msOf, h1]; rfl
    rw [h2, maskOf, edge_fold]
    simp only [Nat.zero_testBit, Bool.false_eq_true, false_or]
    have htake : ∀ k, k < j → ((msOf ops).take j).getD k 0 = (msOf ops).getD k 0 := fun k hk => by
      rw [List.getD_eq_getElem?_getD, List.getD_eq_getElem?_getD, List.getElem?_take_of_lt hk]
    constructor
    · rintro ⟨e, he, hb, h⟩
      have hp : Pred ops j e.on := ⟨o, hj, e, he, hb, rfl⟩
      rw [htake _ (hlt _ _ hp)] at h
      exact ⟨e.on, hp, h⟩
    · rintro ⟨k, hp, h⟩
      have hk := hlt _ _ hp
      obtain ⟨o', ho', e, he, hb, rfl⟩ := hp
      rw [hj] at ho'; cases ho'
      exact ⟨e, he, hb, by rw [htake _ hk]; exact h⟩

theorem ms_closed {ops : Array Oper} (hlt : ∀ j i, Pred ops j i → i < j) {S : Nat → Prop} (hS : ∀ j i, S j → Pred ops j i → S i) : ∀ (j : Nat), (∀ i, Pred ops j i → S i) → ∀ i, ((msOf ops).getD j 0).testBit i = true → S i := by
  intro j
  induction j using Nat.strongRecOn with
  | _ j ih =>
    intro hp i hi
    obtain ⟨k, hk, h⟩ := (ms_iff hlt j i).1 hi
    rcases h with rfl | h
    · exact hp _ hk
    · exact ih k (hlt _ _ hk) (fun i' hi' => hS _ _ (hp _ hk) hi') i h
end Go.Am

namespace Go.Am
open Go
open Classical

def updN {α : Type} (f : Nat → α) (i : Nat) (x : α) : Nat → α := fun j => if j = i then x else f j
theorem updN_self {α : Type} (f : Nat → α) (i : Nat) (x : α) : updN f i x i = x := by simp [updN]
theorem updN_ne {α : Type} (f : Nat → α) {i j : Nat} (x : α) (h : j ≠ i) : updN f i x j = f j := by simp [updN, h]
structure CS where
  fr : Fr
  A : AH
  hid : List (Nat × Nat × ABlk)
  watch : List (Nat × Nat × (ABlk → Option AV) × AV)

def promo : List (Nat × Nat × ABlk) → AH → AH
  | [], A => A
  | h :: l, A => promo l (A.put h.2.1 h.2.2)

def effWp (C : Cx) (A : AH) (ρ : Operand → Option AV) (o : Oper) (K : AV → AH → Prop) : Prop :=
  (∃ v A', effOp C ρ o.op A = some (v, A') ∧ K v A') ∨ (∃ f args, callA ρ o.op = some (f, args) ∧ ACall C f args A K)

def hidIn (m : Nat) (h : Nat × Nat × ABlk) : Bool := m.testBit h.1
def watIn (m : Nat) (x : Nat × Nat × (ABlk → Option AV) × AV) : Bool := m.testBit x.1

/-- the one order in which a region that draws is followed -/
def canWp (C : Cx) (ops : Array Oper) (ms : List Nat) (K : Fr → AH → Prop) : List Nat → CS → Prop
  | [], s => K s.fr (promo s.hid s.A)
  | i :: rest, s => ∃ o, ops[i]? = some o ∧ s.fr.fits o.dst = true ∧
    ((wantedA ops s.fr o = some false ∧ canWp C ops ms K rest { s with fr := s.fr.put o.dst (.tuple []) }) ∨
     (wantedA ops s.fr o = some true ∧
      if isE o then
        (∀ h ∈ s.hid.filter (fun h => !hidIn (ms.getD i 0) h), (∀ t ∈ opTmps o, ∀ v, s.fr.get t = some v → ment h.2.1 v = false) ∧ (∀ h' ∈ s.hid.filter (hidIn (ms.getD i 0)), mentB h.2.1 h'.2.2 = false)) ∧
        effWp C (promo (s.hid.filter (hidIn (ms.getD i 0))) s.A) (evalR C s.fr (opTmps o)) o (fun v A' =>
          (∀ x ∈ s.watch.filter (fun x => !watIn (ms.getD i 0) x), (A'.get x.2.1).bind x.2.2.1 = some x.2.2.2) ∧
          (∀ h ∈ s.hid.filter (fun h => !hidIn (ms.getD i 0) h), A'.st h.2.1 = none ∧ h.2.1 < A'.next) ∧
          canWp C ops ms K rest ⟨s.fr.put o.dst v, A', s.hid.filter (fun h => !hidIn (ms.getD i 0) h), s.watch.filter (fun x => !watIn (ms.getD i 0) x)⟩)
      else
        (∃ v, (pureOp C (evalR C s.fr (opTmps o)) o.op = some v ∨ readOp C (evalR C s.fr (opTmps o)) o.op = some (.imm v)) ∧ canWp C ops ms K rest { s with fr := s.fr.put o.dst v }) ∨
        (∃ β f v, readOp C (evalR C s.fr (opTmps o)) o.op = some (.at β f) ∧ (s.A.get β).bind f = some v ∧ canWp C ops ms K rest { s with fr := s.fr.put o.dst v, watch := (i, β, f, v) :: s.watch }) ∨
        (∃ B mk, newOp C (evalR C s.fr (opTmps o)) o.op = some (B, mk) ∧ canWp C ops ms K rest ⟨s.fr.put o.dst (mk s.A.next), s.A.reserve, (i, s.A.next, B) :: s.hid, s.watch⟩)))

def rdTmps (ops : Array Oper) (o : Oper) : List Nat := opTmps o ++ match o.guard with | some (j, _) => ((ops[j]?).bind (·.dst)).toList | none => []

structure DrawOk (ops : Array Oper) (ord : List Nat) : Prop where
  lt : ∀ j i, Pred ops j i → i < j
  ssa : ∀ (i k : Nat) (oi ok : Oper) (d : Nat), ops[i]? = some oi → ops[k]? = some ok → oi.dst = some d → ok.dst = some d → i = k
  use : ∀ (i k : Nat) (oi ok : Oper) (d : Nat), ops[i]? = some oi → ops[k]? = some ok → ok.dst = some d → d ∈ rdTmps ops oi → i ≠ k ∧ (((msOf ops).getD i 0).testBit k = true ∨ ((msOf ops).getD k 0).testBit i = true)
  perm : ∀ i, i < ops.size ↔ i ∈ ord
  nodup : ord.Nodup
  lin : ∀ (p : List Nat) (i : Nat) (q : List Nat), ord = p ++ i :: q → ∀ j, ((msOf ops).getD i 0).testBit j = true → j ∈ p
  eord : ∀ (p : List Nat) (i : Nat) (q : List Nat) (o : Oper), ord = p ++ i :: q → ops[i]? = some o → isE o = true → ∀ j ∈ q, ((msOf ops).getD j 0).testBit i = true

inductive Kind where
  | skip
  | imm (v : AV)
  | at (β : Nat) (f : ABlk → Option AV) (v : AV)
  | new (id : Nat) (B : ABlk) (mk : Nat → AV)
def Kind.v : Kind → AV
  | .skip => .tuple []
  | .imm v => v
  | .at _ _ v => v
  | .new id _ mk => mk id
def KindOk (C : Cx) (ops : Array Oper) (o : Oper) (fr : Fr) : Kind → Prop
  | .skip => wantedA ops fr o = some false
  | .imm v => wantedA ops fr o = some true ∧ (pureOp C (evalR C fr (opTmps o)) o.op = some v ∨ readOp C (evalR C fr (opTmps o)) o.op = some (.imm v))
  | .at β f _ => wantedA ops fr o = some true ∧ readOp C (evalR C fr (opTmps o)) o.op = some (.at β f)
  | .new _ B mk => wantedA ops fr o = some true ∧ newOp C (evalR C fr (opTmps o)) o.op = some (B, mk)

def Src (ops : Array Oper) (fr₀ : Fr) (val : Nat → Option AV) (i t : Nat) (v : AV) : Prop :=
  (∃ k ok, ops[k]? = some ok ∧ ok.dst = some t ∧ ((msOf ops).getD i 0).testBit k = true ∧ val k = some v) ∨
  ((∀ k ok, ops[k]? = some ok → ok.dst = some t → ((msOf ops).getD i 0).testBit k = false) ∧ fr₀.get t = some v)

/-- all blocks: those of φ, and the hidden ones that are there -/
noncomputable def full (φ φ₀ : Env) (HS : Nat → Prop) (bl : Nat → Nat) : Env := ⟨fun β => if HS β then .live (bl β) 0 else φ β, φ₀.priv⟩

structure Inv (C : Cx) (D : List Deferred) (ops : Array Oper) (ord : List Nat) (K : Fr → AH → Prop) (φ₀ : Env) (w₀ : World) (fr₀ : Fr) (S : Nat → Prop) (HS : Nat → Prop) (φ : Env) (bl : Nat → Nat) (a : Act) (w : World)
    (done rest : List Nat) (s : CS) (fri : Nat → Fr) (kd : Nat → Kind) (val : Nat → Option AV) : Prop where
  ord : ord = done ++ rest
  p0 : ∀ b, φ₀.priv b → b < w₀.heap.size
  wp : canWp C ops (msOf ops) K rest s
  closed : ∀ j i, S j → Pred ops j i → S i
  sub : ∀ i, S i → i ∈ done
  eff : ∀ i ∈ done, ∀ o, ops[i]? = some o → isE o = true → S i
  recd : ∀ i ∈ done, ∀ o, ops[i]? = some o → isE o = false → KindOk C ops o (fri i) (kd i) ∧ val i = some (kd i).v ∧ ∀ t ∈ rdTmps ops o, ∀ v, (fri i).get t = some v → Src ops fr₀ val i t v
  cf : ∀ t v, s.fr.get t = some v → (∃ k ∈ done, ∃ ok, ops[k]? = some ok ∧ ok.dst = some t ∧ val k = some v) ∨ ((∀ k ∈ done, ∀ ok, ops[k]? = some ok → ok.dst ≠ some t) ∧ fr₀.get t = some v)
  frn : s.fr.n = fr₀.n
  fit : ∀ i ∈ done, ∀ o, ops[i]? = some o → fr₀.fits o.dst = true
  t1 : ∀ k, S k → ∀ ok d v, ops[k]? = some ok → ok.dst = some d → val k = some v → ∃ x, a.tmps[d]? = some x ∧ VRel (full φ φ₀ HS bl) w v x
  t0 : ∀ t v, fr₀.get t = some v → (∀ k, S k → ∀ ok, ops[k]? = some ok → ok.dst ≠ some t) → ∃ x, a.tmps[t]? = some x ∧ VRel (full φ φ₀ HS bl) w v x
  asz : fr₀.n ≤ a.tmps.size
  defers : a.defers = D
  heap : HRel φ s.A w
  hid : ∀ j id B, (j, id, B) ∈ s.hid → j ∈ done ∧ (∃ o, ops[j]? = some o ∧ isE o = false) ∧ (∃ mk, kd j = .new id B mk) ∧ s.A.st id = none ∧ id < s.A.next
  hidu : ∀ j id B j' B', (j, id, B) ∈ s.hid → (j', id, B') ∈ s.hid → j = j'
  hidc : ∀ i ∈ done, ∀ o, ops[i]? = some o → isE o = false → ∀ id B mk, kd i = .new id B mk → ¬ S i → (i, id, B) ∈ s.hid
  hs : ∀ id, HS id ↔ ∃ j B, (j, id, B) ∈ s.hid ∧ S j
  hS : ∀ j id B, (j, id, B) ∈ s.hid → S j → BRel (full φ φ₀ HS bl) w B (bl id) 0 ∧ w₀.heap.size ≤ bl id ∧ bl id < w.heap.size ∧ ¬ Lv φ (bl id)
  hinj : ∀ i j, HS i → HS j → bl i = bl j → i = j
  priv : ∀ b, φ.priv b ↔ φ₀.priv b ∨ ∃ id, HS id ∧ b = bl id
  ext : Ext φ₀ w₀ ⟨φ.loc, φ₀.priv⟩ w
  watch : ∀ j β f v, (j, β, f, v) ∈ s.watch → (s.A.get β).bind f = some v
  watc : ∀ i ∈ done, ∀ o, ops[i]? = some o → isE o = false → ∀ β f v, kd i = .at β f v → ¬ S i → (i, β, f, v) ∈ s.watch

section
variable {C : Cx} {D : List Deferred} {ops : Array Oper} {ord : List Nat} {K : Fr → AH → Prop} {φ₀ : Env} {w₀ : World} {fr₀ : Fr} {S HS : Nat → Prop} {φ : Env} {bl : Nat → Nat} {a : Act} {w : World}

theorem AH.st_reserve (A : AH) (β : Nat) : A.reserve.st β = A.st β := rfl
theorem AH.get_reserve (A : AH) (β : Nat) : A.reserve.get β = A.get β := rfl
theorem HRel.reserve {φ : Env} {A : AH} {w : World} (h : HRel φ A w) : HRel φ A.reserve w :=
  ⟨h.born, fun β hb => h.fresh β (by have : A.next + 1 ≤ β := hb; omega), h.blk, h.live, h.inj, h.prv, h.dis⟩

/-- the followed order goes on to the next effect -/
theorem Inv.advance (hD : DrawOk ops ord) : ∀ (rest : List Nat) (done : List Nat) (s : CS) (fri : Nat → Fr) (kd : Nat → Kind) (val : Nat → Option AV),
    Inv C D ops ord K φ₀ w₀ fr₀ S HS φ bl a w done rest s fri kd val →
    ∃ done' rest' s' fri' kd' val', Inv C D ops ord K φ₀ w₀ fr₀ S HS φ bl a w done' rest' s' fri' kd' val' ∧ ∀ i r, rest' = i :: r → ∃ o, ops[i]? = some o ∧ isE o = true
  | [], done, s, fri, kd, val, h => ⟨done, [], s, fri, kd, val, h, by simp⟩
  | i :: rest, done, s, fri, kd, val, h => by
    obtain ⟨o, ho, hfit, hw⟩ := h.wp
    by_cases hE : isE o = true
    · exact ⟨done, i :: rest, s, fri, kd, val, h, fun j r e => by cases e; exact ⟨o, ho, hE⟩⟩
    · have hE' : isE o = false := by simpa using hE
      have hnd : i ∉ done := by
        have := hD.nodup
        rw [h.ord, List.nodup_append] at this
        intro hi
        exact this.2.2 i hi i (by simp) rfl
      have hnS : ¬ S i := fun hi => hnd (h.sub i hi)
      have hlin := hD.lin done i rest h.ord
      -- one step: what the state becomes
      have step : ∀ (s' : CS) (k : Kind), canWp C ops (msOf ops) K rest s' → KindOk C ops o s.fr k → s'.fr = s.fr.put o.dst k.v →
          (s'.A = s.A ∧ s'.hid = s.hid ∧ (∀ id B mk, k ≠ .new id B mk) ∨ s'.A = s.A.reserve ∧ ∃ B mk, s'.hid = (i, s.A.next, B) :: s.hid ∧ k = .new s.A.next B mk) →
          (s'.watch = s.watch ∧ (∀ β f v, k ≠ .at β f v) ∨ ∃ β f v, s'.watch = (i, β, f, v) :: s.watch ∧ k = .at β f v ∧ (s.A.get β).bind f = some v) →
          Inv C D ops ord K φ₀ w₀ fr₀ S HS φ bl a w (done ++ [i]) rest s' (updN fri i s.fr) (updN kd i k) (updN val i (some k.v)) := by
        intro s' k hwp hk hfr hA hwat
        have hst : ∀ β, s'.A.st β = s.A.st β := by rcases hA with ⟨e, _⟩ | ⟨e, _⟩ <;> intro β <;> rw [e] <;> rfl
        have hnx : s.A.next ≤ s'.A.next := by
          rcases hA with ⟨e, _⟩ | ⟨e, _⟩ <;> rw [e]
          · exact Nat.le_refl _
          · exact Nat.le_succ _
        have hget : ∀ β, s'.A.get β = s.A.get β := by rcases hA with ⟨e, _⟩ | ⟨e, _⟩ <;> intro β <;> rw [e] <;> rfl
        have hne : ∀ j, j ∈ done → j ≠ i := fun j hj e => hnd (e ▸ hj)
        have hneS : ∀ j, S j → j ≠ i := fun j hj e => hnS (e ▸ hj)
        have hhid : ∀ j id B, (j, id, B) ∈ s'.hid → (j, id, B) ∈ s.hid ∨ (j = i ∧ id = s.A.next ∧ s'.A = s.A.reserve ∧ ∃ mk, k = .new s.A.next B mk) := by
          intro j id B hm
          rcases hA with ⟨_, e, _⟩ | ⟨e1, B', mk, e, e2⟩
          · rw [e] at hm; exact .inl hm
          · rw [e] at hm
            rcases List.mem_cons.1 hm with h1 | h1
            · cases h1; exact .inr ⟨rfl, rfl, e1, mk, e2⟩
            · exact .inl h1
        have hhid2 : ∀ x, x ∈ s.hid → x ∈ s'.hid := by
          intro x hx
          rcases hA with ⟨_, e, _⟩ | ⟨_, B', mk, e, _⟩
          · rw [e]; exact hx
          · rw [e]; exact List.mem_cons_of_mem _ hx
        have hsrc : ∀ t ∈ rdTmps ops o, ∀ v, s.fr.get t = some v → Src ops fr₀ (updN val i (some k.v)) i t v := by
          intro t ht v hv
          rcases h.cf t v hv with ⟨k', hk', ok, h1, h2, h3⟩ | ⟨h1, h2⟩
          · left
            refine ⟨k', ok, h1, h2, ?_, by rw [updN_ne _ _ (hne k' hk')]; exact h3⟩
            rcases (hD.use i k' o ok t ho h1 h2 ht).2 with h4 | h4
            · exact h4
            · -- i would stand before k'
              exfalso
              obtain ⟨p, q, hpq⟩ := List.append_of_mem hk'
              have h5 : ord = p ++ k' :: (q ++ i :: rest) := by rw [h.ord, hpq]; simp
              have h6 := hD.lin p k' _ h5 i h4
              exact hnd (by rw [hpq]; simp [h6])
          · right
            refine ⟨fun k' ok h3 h4 => ?_, h2⟩
            by_cases h5 : ((msOf ops).getD i 0).testBit k' = true
            · exact absurd h4 (h1 k' (hlin k' h5) ok h3)
            · simpa using h5
        exact {
          ord := by rw [h.ord]; simp
          wp := hwp
          closed := h.closed
          sub := fun j hj => List.mem_append_left _ (h.sub j hj)
          eff := fun j hj oj hoj hej => by
            rcases List.mem_append.1 hj with h1 | h1
            · exact h.eff j h1 oj hoj hej
            · simp at h1; subst h1; rw [ho] at hoj; cases hoj; exact absurd hej hE
          recd := fun j hj oj hoj hej => by
            by_cases hji : j = i
            · subst hji
              rw [ho] at hoj; cases hoj
              rw [updN_self, updN_self, updN_self]
              exact ⟨hk, rfl, hsrc⟩
            · have hjd : j ∈ done := by
                rcases List.mem_append.1 hj with h1 | h1
                · exact h1
                · simp at h1; exact absurd h1 hji
              obtain ⟨r1, r2, r3⟩ := h.recd j hjd oj hoj hej
              rw [updN_ne _ _ hji, updN_ne _ _ hji, updN_ne _ _ hji]
              refine ⟨r1, r2, fun t ht v hv => ?_⟩
              rcases r3 t ht v hv with ⟨k', ok, h1, h2, h3, h4⟩ | h1
              · left
                refine ⟨k', ok, h1, h2, h3, ?_⟩
                have : k' ≠ i := by
                  intro e; subst e
                  obtain ⟨p, q, hpq⟩ := List.append_of_mem hjd
                  have h5 : ord = p ++ j :: (q ++ k' :: rest) := by rw [h.ord, hpq]; simp
                  have h6 := hD.lin p j _ h5 k' h3
                  exact hnd (by rw [hpq]; simp [h6])
                rw [updN_ne _ _ this]; exact h4
              · exact .inr h1
          cf := fun t v hv => by
            rw [hfr, Fr.get_put] at hv
            split at hv
            · rename_i hd
              cases hv
              exact .inl ⟨i, by simp, o, ho, hd, updN_self _ _ _⟩
            · rename_i hd
              rcases h.cf t v hv with ⟨k', hk', ok, h1, h2, h3⟩ | ⟨h1, h2⟩
              · exact .inl ⟨k', List.mem_append_left _ hk', ok, h1, h2, by rw [updN_ne _ _ (hne k' hk')]; exact h3⟩
              · refine .inr ⟨fun k' hk' ok h3 h4 => ?_, h2⟩
                rcases List.mem_append.1 hk' with h5 | h5
                · exact h1 k' h5 ok h3 h4
                · simp at h5; subst h5; rw [ho] at h3; cases h3; exact hd h4
          frn := by rw [hfr, Fr.n_put]; exact h.frn
          fit := fun j hj oj hoj => by
            rcases List.mem_append.1 hj with h1 | h1
            · exact h.fit j h1 oj hoj
            · simp at h1; subst h1; rw [ho] at hoj; cases hoj
              have := hfit
              unfold Fr.fits at this ⊢
              rw [h.frn] at this; exact this
          t1 := fun k' hk' ok d v h1 h2 h3 => by
            rw [updN_ne _ _ (hneS k' hk')] at h3
            exact h.t1 k' hk' ok d v h1 h2 h3
          t0 := h.t0
          asz := h.asz
          p0 := h.p0
          defers := h.defers
          heap := by
            rcases hA with ⟨e, _⟩ | ⟨e, _⟩
            · rw [e]; exact h.heap
            · rw [e]; exact h.heap.reserve
          hid := fun j id B hm => by
            rcases hhid j id B hm with h1 | ⟨rfl, rfl, e, mk, hk2⟩
            · obtain ⟨r1, r2, ⟨mk, r3⟩, r4, r5⟩ := h.hid j id B h1
              exact ⟨List.mem_append_left _ r1, r2, ⟨mk, by rw [updN_ne _ _ (hne j r1)]; exact r3⟩, by rw [hst]; exact r4, by omega⟩
            · refine ⟨by simp, ⟨o, ho, hE'⟩, ⟨mk, by rw [updN_self]; exact hk2⟩, ?_, ?_⟩
              · rw [hst]; exact h.heap.fresh _ (Nat.le_refl _)
              · rw [e]; exact Nat.lt_succ_self _
          hidu := fun j id B j' B' hm hm' => by
            rcases hhid j id B hm with h1 | ⟨rfl, rfl, _⟩
            · rcases hhid j' id B' hm' with h2 | ⟨rfl, rfl, _⟩
              · exact h.hidu _ _ _ _ _ h1 h2
              · have := (h.hid _ _ _ h1).2.2.2.2; omega
            · rcases hhid j' _ B' hm' with h2 | ⟨rfl, _⟩
              · have := (h.hid _ _ _ h2).2.2.2.2; omega
              · rfl
          hidc := fun j hj oj hoj hej id B mk hkd hns => by
            by_cases hji : j = i
            · subst hji
              rw [updN_self] at hkd
              rcases hA with ⟨_, _, hnn⟩ | ⟨_, B', mk', e, e2⟩
              · exact absurd hkd (hnn _ _ _)
              · rw [hkd] at e2; cases e2; rw [e]; simp
            · rw [updN_ne _ _ hji] at hkd
              have hjd : j ∈ done := by
                rcases List.mem_append.1 hj with h1 | h1
                · exact h1
                · simp at h1; exact absurd h1 hji
              exact hhid2 _ (h.hidc j hjd oj hoj hej id B mk hkd hns)
          hs := fun id => by
            rw [h.hs id]
            constructor
            · rintro ⟨j, B, h1, h2⟩; exact ⟨j, B, hhid2 _ h1, h2⟩
            · rintro ⟨j, B, h1, h2⟩
              rcases hhid j id B h1 with h3 | ⟨rfl, _⟩
              · exact ⟨j, B, h3, h2⟩
              · exact absurd h2 hnS
          hS := fun j id B hm hSj => by
            rcases hhid j id B hm with h1 | ⟨rfl, _⟩
            · exact h.hS j id B h1 hSj
            · exact absurd hSj hnS
          hinj := h.hinj
          priv := h.priv
          ext := h.ext
          watch := fun j β f v hm => by
            rw [hget]
            rcases hwat with ⟨e, _⟩ | ⟨β', f', v', e, _, hv⟩
            · rw [e] at hm; exact h.watch j β f v hm
            · rw [e] at hm
              rcases List.mem_cons.1 hm with h1 | h1
              · cases h1; exact hv
              · exact h.watch j β f v h1
          watc := fun j hj oj hoj hej β f v hkd hns => by
            by_cases hji : j = i
            · subst hji
              rw [updN_self] at hkd
              rcases hwat with ⟨_, hnn⟩ | ⟨β', f', v', e, e2, _⟩
              · exact absurd hkd (hnn _ _ _)
              · rw [hkd] at e2; cases e2; rw [e]; simp
            · rw [updN_ne _ _ hji] at hkd
              have hjd : j ∈ done := by
                rcases List.mem_append.1 hj with h1 | h1
                · exact h1
                · simp at h1; exact absurd h1 hji
              have := h.watc j hjd oj hoj hej β f v hkd hns
              rcases hwat with ⟨e, _⟩ | ⟨β', f', v', e, _, _⟩
              · rw [e]; exact this
              · rw [e]; exact List.mem_cons_of_mem _ this }
      rcases hw with ⟨hwf, hwp⟩ | ⟨hwt, hwp⟩
      · exact Inv.advance hD rest _ _ _ _ _ (step _ .skip hwp hwf rfl (.inl ⟨rfl, rfl, by simp⟩) (.inl ⟨rfl, by simp⟩))
      · rw [if_neg hE] at hwp
        rcases hwp with ⟨v, hv, hwp⟩ | ⟨β, f, v, hv, hg, hwp⟩ | ⟨B, mk, hv, hwp⟩
        · exact Inv.advance hD rest _ _ _ _ _ (step _ (.imm v) hwp ⟨hwt, hv⟩ rfl (.inl ⟨rfl, rfl, by simp⟩) (.inl ⟨rfl, by simp⟩))
        · exact Inv.advance hD rest _ _ _ _ _ (step _ (.at β f v) hwp ⟨hwt, hv⟩ rfl (.inl ⟨rfl, rfl, by simp⟩) (.inr ⟨β, f, v, rfl, rfl, hg⟩))
        · exact Inv.advance hD rest _ _ _ _ _ (step _ (.new s.A.next B mk) hwp ⟨hwt, hv⟩ rfl (.inr ⟨rfl, B, mk, rfl, rfl⟩) (.inl ⟨rfl, by simp⟩))
end
end Go.Am

namespace Go.Am
open Go
open Classical

section
variable {C : Cx} {D : List Deferred} {ops : Array Oper} {ord : List Nat} {K : Fr → AH → Prop} {φ₀ : Env} {w₀ : World} {fr₀ : Fr} {S HS : Nat → Prop} {φ : Env} {bl : Nat → Nat} {a : Act} {w : World}
variable {done rest : List Nat} {s : CS} {fri : Nat → Fr} {kd : Nat → Kind} {val : Nat → Option AV}

theorem put_tmps (a : Act) (d : Option Nat) (y : Value) (t : Nat) : (a.put d y).tmps[t]? = if d = some t ∧ t < a.tmps.size then some y else a.tmps[t]? := by
  cases d with
  | none => simp [Act.put]
  | some d =>
    simp only [Act.put, Array.getElem?_setIfInBounds, Option.some.injEq]
    by_cases e : d = t
    · subst e
      by_cases h : d < a.tmps.size
      · simp [h]
      · simp [h]
    · simp [e]
theorem put_size (a : Act) (d : Option Nat) (y : Value) : (a.put d y).tmps.size = a.tmps.size := by cases d <;> simp [Act.put]

theorem Inv.hidden_unborn (h : Inv C D ops ord K φ₀ w₀ fr₀ S HS φ bl a w done rest s fri kd val) {id : Nat} (hi : HS id) : φ id = .unborn := by
  obtain ⟨j, B, hm, _⟩ := (h.hs id).1 hi
  exact (h.heap.born id).2 (h.hid j id B hm).2.2.2.1
theorem full_lv {φ φ₀ : Env} {HS : Nat → Prop} {bl : Nat → Nat} (hu : ∀ id, HS id → φ id = .unborn) (b : Nat) : Lv (full φ φ₀ HS bl) b ↔ Lv φ b ∨ ∃ id, HS id ∧ b = bl id := by
  constructor
  · rintro ⟨β, δ, e⟩
    simp only [full] at e
    split at e
    · rename_i hb; cases e; exact .inr ⟨β, hb, rfl⟩
    · exact .inl ⟨β, δ, e⟩
  · rintro (⟨β, δ, e⟩ | ⟨id, hi, rfl⟩)
    · refine ⟨β, δ, ?_⟩
      simp only [full]
      rw [if_neg (fun hb => by rw [hu β hb] at e; cases e)]; exact e
    · exact ⟨id, 0, by simp only [full]; rw [if_pos hi]⟩
theorem full_im {φ φ₀ : Env} {HS : Nat → Prop} {bl : Nat → Nat} (hu : ∀ id, HS id → φ id = .unborn) (hp : ∀ b, φ.priv b ↔ φ₀.priv b ∨ ∃ id, HS id ∧ b = bl id) (b : Nat) :
    Im (full φ φ₀ HS bl) b ↔ Im φ b := by
  unfold Im
  rw [full_lv hu, hp b]
  show (Lv φ b ∨ _) ∨ φ₀.priv b ↔ _
  constructor
  · rintro ((h | h) | h)
    · exact .inl h
    · exact .inr (.inr h)
    · exact .inr (.inl h)
  · rintro (h | h | h)
    · exact .inl (.inl h)
    · exact .inr h
    · exact .inl (.inr h)
theorem ext_full {φ φ₀ : Env} {HS : Nat → Prop} {bl : Nat → Nat} (hu : ∀ id, HS id → φ id = .unborn) (hp : ∀ b, φ.priv b ↔ φ₀.priv b ∨ ∃ id, HS id ∧ b = bl id) : Ext0 φ w (full φ φ₀ HS bl) w where
  mono β hb := by
    left
    simp only [full]
    rw [if_neg (fun h => hb (hu β h))]
  keep _ _ _ := rfl
  im b h := .inl ((full_im hu hp b).1 h)
  shape _ _ h := h

theorem wanted_sound' {φ : Env} {fr : Fr} {o : Oper} {b : Bool} (h : wantedA ops fr o = some b)
    (hr : ∀ t ∈ rdTmps ops o, ∀ v, fr.get t = some v → ∃ x, a.tmps[t]? = some x ∧ VRel φ w v x) : Region.wanted o (yielded ops a.tmps) = b := by
  unfold wantedA at h
  unfold Region.wanted
  split at h
  · rename_i e; rw [e]; cases h; rfl
  · rename_i j want e
    rw [e]
    simp only
    unfold yielded
    split at h
    · rename_i hd; rw [hd]; cases h; rfl
    · rename_i d hd
      have hmem : d ∈ rdTmps ops o := by
        unfold rdTmps
        rw [e]
        simp only [hd]
        simp
      rw [hd]
      split at h
      · rename_i c hc
        obtain ⟨x, hx, hr⟩ := hr d hmem _ hc
        obtain rfl : x = _ := hr
        simp only [Option.bind_some, hx]
        cases h
        cases c <;> cases want <;> rfl
      · rename_i v hv hc
        obtain ⟨x, hx, hr⟩ := hr d hmem _ hc
        simp only [Option.bind_some, hx]
        cases h
        cases x <;> first | rfl | exact absurd hr.inv_bool (by intro e; exact hv _ e)
      · cases h

theorem opsRelR {φ : Env} {fr : Fr} {ts : List Nat} (hG : GRel C φ w) (hr : ∀ t ∈ ts, ∀ v, fr.get t = some v → ∃ x, a.tmps[t]? = some x ∧ VRel φ w v x) : OpsRel φ w (evalR C fr ts) a.eval := by
  intro x u hu
  cases x with
  | tmp t =>
    simp only [evalR] at hu
    split at hu
    · rename_i ht
      obtain ⟨y, e, r⟩ := hr t (by simpa using ht) u hu
      simp only [Act.eval, Array.getD_eq_getD_getElem?, e, Option.getD_some]
      exact r
    · cases hu
  | const v => exact ofValue_rel hu
  | global g =>
    simp only [evalR, Option.map_eq_some_iff] at hu
    obtain ⟨cs, hg, rfl⟩ := hu
    exact ⟨g, 0, rfl, hG g cs hg⟩
  | func f => cases hu; exact ⟨#[], #[], rfl, rfl, rfl⟩

/-- what an operation that has been followed already reads -/
theorem Inv.reads (hD : DrawOk ops ord) (h : Inv C D ops ord K φ₀ w₀ fr₀ S HS φ bl a w done rest s fri kd val) {i : Nat} {o : Oper} (hi : i ∈ done) (ho : ops[i]? = some o) (hE : isE o = false) (hn : ¬ S i)
    (hp : ∀ j, Pred ops i j → S j) : ∀ t ∈ rdTmps ops o, ∀ v, (fri i).get t = some v → ∃ x, a.tmps[t]? = some x ∧ VRel (full φ φ₀ HS bl) w v x := by
  intro t ht v hv
  rcases (h.recd i hi o ho hE).2.2 t ht v hv with ⟨k, ok, h1, h2, h3, h4⟩ | ⟨h1, h2⟩
  · exact h.t1 k (ms_closed hD.lt h.closed i hp k h3) ok t v h1 h2 h4
  · refine h.t0 t v h2 fun k hk ok h3 h4 => ?_
    rcases (hD.use i k o ok t ho h3 h4 ht).2 with h5 | h5
    · rw [h1 k ok h3 h4] at h5; cases h5
    · exact hn (ms_closed hD.lt h.closed k (fun j hj => h.closed k j hk hj) i h5)
/-- what the next effect reads -/
theorem Inv.readsE (hD : DrawOk ops ord) {e : Nat} (h : Inv C D ops ord K φ₀ w₀ fr₀ S HS φ bl a w done (e :: rest) s fri kd val) {o : Oper} (ho : ops[e]? = some o)
    (hp : ∀ j, Pred ops e j → S j) : ∀ t ∈ rdTmps ops o, ∀ v, s.fr.get t = some v → ∃ x, a.tmps[t]? = some x ∧ VRel (full φ φ₀ HS bl) w v x := by
  have hnd : e ∉ done := by
    have := hD.nodup
    rw [h.ord, List.nodup_append] at this
    intro hi
    exact this.2.2 e hi e (by simp) rfl
  intro t ht v hv
  rcases h.cf t v hv with ⟨k, hk, ok, h1, h2, h3⟩ | ⟨h1, h2⟩
  · have hkm : ((msOf ops).getD e 0).testBit k = true := by
      rcases (hD.use e k o ok t ho h1 h2 ht).2 with h4 | h4
      · exact h4
      · exfalso
        obtain ⟨p, q, hpq⟩ := List.append_of_mem hk
        have h5 : ord = p ++ k :: (q ++ e :: rest) := by rw [h.ord, hpq]; simp
        have h6 := hD.lin p k _ h5 e h4
        exact hnd (by rw [hpq]; simp [h6])
    exact h.t1 k (ms_closed hD.lt h.closed e hp k hkm) ok t v h1 h2 h3
  · exact h.t0 t v h2 fun k hk ok h3 => h1 k (h.sub k hk) ok h3

theorem Inv.commit (hD : DrawOk ops ord) (h : Inv C D ops ord K φ₀ w₀ fr₀ S HS φ bl a w done rest s fri kd val) {i : Nat} {o : Oper} (hi : i ∈ done) (ho : ops[i]? = some o) (hE : isE o = false) (hn : ¬ S i)
    (hp : ∀ j, Pred ops i j → S j) {y : Value} {w' : World} {φ' : Env} {bl' : Nat → Nat} {HS' : Nat → Prop}
    (hx : Ext0 (full φ φ₀ HS bl) w (full φ' φ₀ HS' bl') w') (hv : VRel (full φ' φ₀ HS' bl') w' (kd i).v y) (heap' : HRel φ' s.A w')
    (hs' : ∀ id, HS' id ↔ ∃ j B, (j, id, B) ∈ s.hid ∧ (S j ∨ j = i))
    (hS' : ∀ j id B, (j, id, B) ∈ s.hid → (S j ∨ j = i) → BRel (full φ' φ₀ HS' bl') w' B (bl' id) 0 ∧ w₀.heap.size ≤ bl' id ∧ bl' id < w'.heap.size ∧ ¬ Lv φ' (bl' id))
    (hinj' : ∀ i j, HS' i → HS' j → bl' i = bl' j → i = j) (priv' : ∀ b, φ'.priv b ↔ φ₀.priv b ∨ ∃ id, HS' id ∧ b = bl' id) (ext' : Ext φ₀ w₀ ⟨φ'.loc, φ₀.priv⟩ w') :
    Inv C D ops ord K φ₀ w₀ fr₀ (fun j => S j ∨ j = i) HS' φ' bl' (a.put o.dst y) w' done rest s fri kd val where
  ord := h.ord
  wp := h.wp
  closed := fun j k hj hpr => by
    rcases hj with hj | rfl
    · exact .inl (h.closed j k hj hpr)
    · exact .inl (hp k hpr)
  sub := fun j hj => by
    rcases hj with hj | rfl
    · exact h.sub j hj
    · exact hi
  eff := fun j hj oj hoj hej => .inl (h.eff j hj oj hoj hej)
  recd := h.recd
  cf := h.cf
  frn := h.frn
  fit := h.fit
  t1 := fun k hk ok d v h1 h2 h3 => by
    rcases hk with hk | rfl
    · obtain ⟨x, e, r⟩ := h.t1 k hk ok d v h1 h2 h3
      refine ⟨x, ?_, VRel.ext0 hx _ _ r⟩
      rw [put_tmps, if_neg]
      · exact e
      · rintro ⟨hd, _⟩
        have := hD.ssa i k o ok d ho h1 hd h2
        exact hn (this ▸ hk)
    · rw [ho] at h1; cases h1
      rw [(h.recd k hi o ho hE).2.1] at h3
      cases h3
      have hfit := h.fit k hi o ho
      rw [h2] at hfit
      have hd : d < fr₀.n := by simpa [Fr.fits] using hfit
      have := h.asz
      exact ⟨y, by rw [put_tmps, if_pos ⟨h2, Nat.lt_of_lt_of_le hd this⟩], hv⟩
  t0 := fun t v h1 h2 => by
    obtain ⟨x, e, r⟩ := h.t0 t v h1 (fun k hk => h2 k (.inl hk))
    refine ⟨x, ?_, VRel.ext0 hx _ _ r⟩
    rw [put_tmps, if_neg]
    · exact e
    · rintro ⟨hd, _⟩
      exact h2 i (.inr rfl) o ho hd
  asz := by rw [put_size]; exact h.asz
  p0 := h.p0
  defers := by rw [Act.put_defers]; exact h.defers
  heap := heap'
  hid := h.hid
  hidu := h.hidu
  hidc := fun j hj oj hoj hej id B mk hkd hns => h.hidc j hj oj hoj hej id B mk hkd (fun hj => hns (.inl hj))
  hs := hs'
  hS := hS'
  hinj := hinj'
  priv := priv'
  ext := ext'
  watch := h.watch
  watc := fun j hj oj hoj hej β f v hkd hns => h.watc j hj oj hoj hej β f v hkd (fun hj => hns (.inl hj))

theorem Inv.commitE (hD : DrawOk ops ord) {e : Nat} (h : Inv C D ops ord K φ₀ w₀ fr₀ S HS φ bl a w done (e :: rest) s fri kd val) {o : Oper} (ho : ops[e]? = some o) (hE : isE o = true)
    (hp : ∀ j, Pred ops e j → S j) (hfit : s.fr.fits o.dst = true) {v : AV} {A' : AH} {hid' : List (Nat × Nat × ABlk)} {watch' : List (Nat × Nat × (ABlk → Option AV) × AV)}
    {y : Value} {w' : World} {φ' : Env} {HS' : Nat → Prop}
    (hwp : canWp C ops (msOf ops) K rest ⟨s.fr.put o.dst v, A', hid', watch'⟩)
    (hx : Ext0 (full φ φ₀ HS bl) w (full φ' φ₀ HS' bl) w') (hv : VRel (full φ' φ₀ HS' bl) w' v y) (heap' : HRel φ' A' w')
    (hsub : ∀ x, x ∈ hid' → x ∈ s.hid ∧ A'.st x.2.1 = none ∧ x.2.1 < A'.next) (hkeep : ∀ x, x ∈ s.hid → ¬ S x.1 → x ∈ hid')
    (hs' : ∀ id, HS' id ↔ ∃ j B, (j, id, B) ∈ hid' ∧ S j)
    (hS' : ∀ j id B, (j, id, B) ∈ hid' → S j → BRel (full φ' φ₀ HS' bl) w' B (bl id) 0 ∧ w₀.heap.size ≤ bl id ∧ bl id < w'.heap.size ∧ ¬ Lv φ' (bl id))
    (hsubS : ∀ id, HS' id → HS id) (priv' : ∀ b, φ'.priv b ↔ φ₀.priv b ∨ ∃ id, HS' id ∧ b = bl id) (ext' : Ext φ₀ w₀ ⟨φ'.loc, φ₀.priv⟩ w')
    (hwat : ∀ j β f v, (j, β, f, v) ∈ watch' → (A'.get β).bind f = some v) (hwk : ∀ x, x ∈ s.watch → ¬ S x.1 → x ∈ watch') :
    Inv C D ops ord K φ₀ w₀ fr₀ (fun j => S j ∨ j = e) HS' φ' bl (a.put o.dst y) w' (done ++ [e]) rest ⟨s.fr.put o.dst v, A', hid', watch'⟩ fri kd (updN val e (some v)) := by
  have hnd : e ∉ done := by
    have := hD.nodup
    rw [h.ord, List.nodup_append] at this
    intro hi
    exact this.2.2 e hi e (by simp) rfl
  have hne : ∀ j, j ∈ done → j ≠ e := fun j hj x => hnd (x ▸ hj)
  have hneS : ∀ j, S j → j ≠ e := fun j hj => hne j (h.sub j hj)
  have hdone : ∀ j, j ∈ done ++ [e] → ∀ oj, ops[j]? = some oj → isE oj = false → j ∈ done := by
    intro j hj oj hoj hej
    rcases List.mem_append.1 hj with h1 | h1
    · exact h1
    · simp at h1; subst h1; rw [ho] at hoj; cases hoj; rw [hE] at hej; cases hej
  have hfit0 : fr₀.fits o.dst = true := by
    unfold Fr.fits at hfit ⊢
    rw [h.frn] at hfit; exact hfit
  exact {
    ord := by rw [h.ord]; simp
    wp := hwp
    closed := fun j k hj hpr => by
      rcases hj with hj | rfl
      · exact .inl (h.closed j k hj hpr)
      · exact .inl (hp k hpr)
    sub := fun j hj => by
      rcases hj with hj | rfl
      · exact List.mem_append_left _ (h.sub j hj)
      · simp
    eff := fun j hj oj hoj hej => by
      rcases List.mem_append.1 hj with h1 | h1
      · exact .inl (h.eff j h1 oj hoj hej)
      · simp at h1; exact .inr h1
    recd := fun j hj oj hoj hej => by
      have hjd := hdone j hj oj hoj hej
      obtain ⟨r1, r2, r3⟩ := h.recd j hjd oj hoj hej
      refine ⟨r1, by rw [updN_ne _ _ (hne j hjd)]; exact r2, fun t ht u hu => ?_⟩
      rcases r3 t ht u hu with ⟨k', ok, h1, h2, h3, h4⟩ | h1
      · left
        refine ⟨k', ok, h1, h2, h3, ?_⟩
        have : k' ≠ e := by
          intro e'; subst e'
          obtain ⟨p, q, hpq⟩ := List.append_of_mem hjd
          have h5 : ord = p ++ j :: (q ++ k' :: rest) := by rw [h.ord, hpq]; simp
          have h6 := hD.lin p j _ h5 k' h3
          exact hnd (by rw [hpq]; simp [h6])
        rw [updN_ne _ _ this]; exact h4
      · exact .inr h1
    cf := fun t u hu => by
      simp only [Fr.get_put] at hu
      split at hu
      · rename_i hd
        cases hu
        exact .inl ⟨e, by simp, o, ho, hd, updN_self _ _ _⟩
      · rename_i hd
        rcases h.cf t u hu with ⟨k', hk', ok, h1, h2, h3⟩ | ⟨h1, h2⟩
        · exact .inl ⟨k', List.mem_append_left _ hk', ok, h1, h2, by rw [updN_ne _ _ (hne k' hk')]; exact h3⟩
        · refine .inr ⟨fun k' hk' ok h3 h4 => ?_, h2⟩
          rcases List.mem_append.1 hk' with h5 | h5
          · exact h1 k' h5 ok h3 h4
          · simp at h5; subst h5; rw [ho] at h3; cases h3; exact hd h4
    frn := by rw [Fr.n_put]; exact h.frn
    fit := fun j hj oj hoj => by
      rcases List.mem_append.1 hj with h1 | h1
      · exact h.fit j h1 oj hoj
      · simp at h1; subst h1; rw [ho] at hoj; cases hoj; exact hfit0
    t1 := fun k hk ok d u h1 h2 h3 => by
      rcases hk with hk | rfl
      · rw [updN_ne _ _ (hneS k hk)] at h3
        obtain ⟨x, q, r⟩ := h.t1 k hk ok d u h1 h2 h3
        refine ⟨x, ?_, VRel.ext0 hx _ _ r⟩
        rw [put_tmps, if_neg]
        · exact q
        · rintro ⟨hd, _⟩
          exact hneS k hk (hD.ssa e k o ok d ho h1 hd h2).symm
      · rw [ho] at h1; cases h1
        rw [updN_self] at h3
        cases h3
        rw [h2] at hfit0
        have hd : d < fr₀.n := by simpa [Fr.fits] using hfit0
        have := h.asz
        exact ⟨y, by rw [put_tmps, if_pos ⟨h2, Nat.lt_of_lt_of_le hd this⟩], hv⟩
    t0 := fun t u h1 h2 => by
      obtain ⟨x, q, r⟩ := h.t0 t u h1 (fun k hk => h2 k (.inl hk))
      refine ⟨x, ?_, VRel.ext0 hx _ _ r⟩
      rw [put_tmps, if_neg]
      · exact q
      · rintro ⟨hd, _⟩
        exact h2 e (.inr rfl) o ho hd
    asz := by rw [put_size]; exact h.asz
    p0 := h.p0
    defers := by rw [Act.put_defers]; exact h.defers
    heap := heap'
    hid := fun j id B hm => by
      obtain ⟨h1, h2, h3⟩ := hsub _ hm
      obtain ⟨r1, r2, r3, _, _⟩ := h.hid j id B h1
      exact ⟨List.mem_append_left _ r1, r2, r3, h2, h3⟩
    hidu := fun j id B j' B' hm hm' => h.hidu j id B j' B' (hsub _ hm).1 (hsub _ hm').1
    hidc := fun j hj oj hoj hej id B mk hkd hns =>
      hkeep _ (h.hidc j (hdone j hj oj hoj hej) oj hoj hej id B mk hkd (fun hj => hns (.inl hj))) (fun hj => hns (.inl hj))
    hs := fun id => by
      rw [hs' id]
      constructor
      · rintro ⟨j, B, h1, h2⟩; exact ⟨j, B, h1, .inl h2⟩
      · rintro ⟨j, B, h1, h2 | rfl⟩
        · exact ⟨j, B, h1, h2⟩
        · obtain ⟨r1, _⟩ := h.hid j id B (hsub _ h1).1
          exact absurd r1 hnd
    hS := fun j id B hm hj => by
      rcases hj with hj | rfl
      · exact hS' j id B hm hj
      · obtain ⟨r1, _⟩ := h.hid j id B (hsub _ hm).1
        exact absurd r1 hnd
    hinj := fun i j hi hj => h.hinj i j (hsubS i hi) (hsubS j hj)
    priv := priv'
    ext := ext'
    watch := hwat
    watc := fun j hj oj hoj hej β f u hkd hns =>
      hwk _ (h.watc j (hdone j hj oj hoj hej) oj hoj hej β f u hkd (fun hj => hns (.inl hj))) (fun hj => hns (.inl hj)) }
end
end Go.Am

namespace Go.Am
open Go
open Classical

section
variable {C : Cx} {D : List Deferred} {ops : Array Oper} {ord : List Nat} {K : Fr → AH → Prop} {φ₀ : Env} {w₀ : World} {fr₀ : Fr} {S HS : Nat → Prop} {φ : Env} {bl : Nat → Nat} {a : Act} {w : World}
variable {done rest : List Nat} {s : CS} {fri : Nat → Fr} {kd : Nat → Kind} {val : Nat → Option AV}

def InvX (C : Cx) (D : List Deferred) (ops : Array Oper) (ord : List Nat) (K : Fr → AH → Prop) (φ₀ : Env) (w₀ : World) (fr₀ : Fr) (S : Nat → Prop) (a : Act) (w : World) : Prop :=
  ∃ HS φ bl done rest s fri kd val, Inv C D ops ord K φ₀ w₀ fr₀ S HS φ bl a w done rest s fri kd val ∧ ∀ i r, rest = i :: r → ∃ o, ops[i]? = some o ∧ isE o = true

theorem promo_st : ∀ (l : List (Nat × Nat × ABlk)) (A : AH) (β : Nat), (∀ h ∈ l, h.2.1 ≠ β) → (promo l A).st β = A.st β
  | [], A, β, _ => rfl
  | h :: l, A, β, hn => by
    rw [promo, promo_st l _ β (fun x hx => hn x (by simp [hx])), AH.st_put, if_neg (fun e => hn h (by simp) e.symm)]
theorem promo_next : ∀ (l : List (Nat × Nat × ABlk)) (A : AH), (promo l A).next = A.next
  | [], A => rfl
  | h :: l, A => by rw [promo, promo_next l]; rfl
theorem promo_mem : ∀ (l : List (Nat × Nat × ABlk)) (A : AH) (j id : Nat) (B : ABlk), (j, id, B) ∈ l → (∀ j' B', (j', id, B') ∈ l → B' = B) → (promo l A).st id = some (some B)
  | h :: l, A, j, id, B, hm, hu => by
    rw [promo]
    by_cases hl : ∃ j' B', (j', id, B') ∈ l
    · obtain ⟨j', B', h1⟩ := hl
      have := hu j' B' (List.mem_cons_of_mem _ h1)
      subst this
      exact promo_mem l _ j' id _ h1 (fun j'' B'' h2 => hu j'' B'' (List.mem_cons_of_mem _ h2))
    · rw [promo_st l _ id (fun x hx e => hl ⟨x.1, x.2.2, by rw [← e]; exact hx⟩), AH.st_put]
      rcases List.mem_cons.1 hm with h1 | h1
      · rw [← h1]; simp
      · exact absurd ⟨j, B, h1⟩ hl

/-- hidden blocks come to light -/
theorem Inv.promote (h : Inv C D ops ord K φ₀ w₀ fr₀ S HS φ bl a w done rest s fri kd val) (m : Nat) (hm : ∀ j, m.testBit j = true → S j)
    (hment : ∀ h ∈ s.hid.filter (fun h => !hidIn m h), ∀ h' ∈ s.hid.filter (hidIn m), mentB h.2.1 h'.2.2 = false) :
    let HSp : Nat → Prop := fun id => ∃ j B, (j, id, B) ∈ s.hid ∧ m.testBit j = true
    let HSr : Nat → Prop := fun id => HS id ∧ ¬ HSp id
    let φe : Env := ⟨fun β => if HSp β then .live (bl β) 0 else φ β, fun b => φ₀.priv b ∨ ∃ id, HSr id ∧ b = bl id⟩
    HRel φe (promo (s.hid.filter (hidIn m)) s.A) w ∧ Less (full φ φ₀ HS bl) φe HSr ∧ Ext φ₀ w₀ ⟨φe.loc, φ₀.priv⟩ w ∧ (∀ β, HSp β → HS β) ∧ (∀ b, Lv φe b ↔ Lv φ b ∨ ∃ id, HSp id ∧ b = bl id) ∧
      (∀ b, Im φe b → Im φ b) := by
  intro HSp HSr φe
  have hpS : ∀ β, HSp β → HS β := fun β ⟨j, B, h1, h2⟩ => (h.hs β).2 ⟨j, B, h1, hm j h2⟩
  have hu : ∀ id, HS id → φ id = .unborn := fun id hi => h.hidden_unborn hi
  have hlv : ∀ b, Lv φe b ↔ Lv φ b ∨ ∃ id, HSp id ∧ b = bl id := by
    intro b
    constructor
    · rintro ⟨β, δ, e⟩
      simp only [φe] at e
      split at e
      · rename_i hb; cases e; exact .inr ⟨β, hb, rfl⟩
      · exact .inl ⟨β, δ, e⟩
    · rintro (⟨β, δ, e⟩ | ⟨id, hi, rfl⟩)
      · refine ⟨β, δ, ?_⟩
        simp only [φe]
        rw [if_neg (fun hb => by rw [hu β (hpS β hb)] at e; cases e)]; exact e
      · exact ⟨id, 0, by simp only [φe]; rw [if_pos hi]⟩
  have him : ∀ b, Im φe b → Im φ b := by
    rintro b (hb | hb)
    · rcases (hlv b).1 hb with h1 | ⟨id, h1, rfl⟩
      · exact .inl h1
      · exact .inr ((h.priv _).2 (.inr ⟨id, hpS id h1, rfl⟩))
    · rcases hb with h1 | ⟨id, h1, rfl⟩
      · exact .inr ((h.priv _).2 (.inl h1))
      · exact .inr ((h.priv _).2 (.inr ⟨id, h1.1, rfl⟩))
  have hless : Less (full φ φ₀ HS bl) φe HSr := by
    refine ⟨fun β hn => ?_, fun b hb => (full_im hu h.priv b).2 (him b hb)⟩
    simp only [φe, full]
    by_cases h1 : HSp β
    · rw [if_pos h1, if_pos (hpS β h1)]
    · rw [if_neg h1, if_neg (fun h2 => hn ⟨h2, h1⟩)]
  have hx : Ext0 φ w φe w := by
    refine ⟨fun β hb => .inl ?_, fun _ _ _ => rfl, fun b hb => .inl (him b hb), fun _ _ h => h⟩
    simp only [φe]
    rw [if_neg (fun h1 => hb (hu β (hpS β h1)))]
  have hext : Ext φ₀ w₀ ⟨φe.loc, φ₀.priv⟩ w := by
    have he := h.ext
    refine ⟨fun β hb => ?_, he.keep, fun b hb => ?_, he.shape, he.size, rfl, he.os, he.tape, he.output⟩
    · have h1 := he.mono β hb
      have h2 : φ β ≠ .unborn := by
        rcases h1 with h1 | h1
        · have : φ β = φ₀ β := h1
          rw [this]; exact hb
        · have : φ β = .gone := h1
          rw [this]; simp
      have h3 : φe β = φ β := by
        simp only [φe]; rw [if_neg (fun h1 => h2 (hu β (hpS β h1)))]
      show φe β = φ₀ β ∨ φe β = .gone
      rw [h3]; exact h1
    · rcases (hlv b).1 hb with h1 | ⟨id, h1, rfl⟩
      · exact he.lv b h1
      · obtain ⟨j, B, h2, h3⟩ := h1
        exact .inr (h.hS j id B h2 (hm j h3)).2.1
  have huniq : ∀ j id B j' B', (j, id, B) ∈ s.hid → (j', id, B') ∈ s.hid → B' = B := by
    intro j id B j' B' h1 h2
    have := h.hidu _ _ _ _ _ h1 h2
    subst this
    obtain ⟨_, _, ⟨mk, e1⟩, _⟩ := h.hid _ _ _ h1
    obtain ⟨_, _, ⟨mk', e2⟩, _⟩ := h.hid _ _ _ h2
    rw [e1] at e2; cases e2; rfl
  have hst1 : ∀ j id B, (j, id, B) ∈ s.hid → m.testBit j = true → (promo (s.hid.filter (hidIn m)) s.A).st id = some (some B) := by
    intro j id B h1 h2
    exact promo_mem _ _ j id B (List.mem_filter.2 ⟨h1, h2⟩) (fun j' B' h3 => huniq _ _ _ _ _ h1 (List.mem_filter.1 h3).1)
  have hst2 : ∀ β, ¬ HSp β → (promo (s.hid.filter (hidIn m)) s.A).st β = s.A.st β := by
    intro β hn
    refine promo_st _ _ _ fun x hx e => hn ⟨x.1, x.2.2, ?_, (List.mem_filter.1 hx).2⟩
    rw [← e]; exact (List.mem_filter.1 hx).1
  refine ⟨⟨fun β => ?_, fun β hb => ?_, fun β B hb => ?_, fun β b δ hb => ?_, fun β γ b δ δ' h1 h2 => ?_, fun b hb => h.heap.prv b ((h.priv b).2 (hb.elim .inl (fun ⟨id, hi, e⟩ => .inr ⟨id, hi.1, e⟩))), fun b hb hl => ?_⟩, hless, hext, hpS, hlv, him⟩
  · by_cases h1 : HSp β
    · obtain ⟨j, B, h2, h3⟩ := h1
      rw [hst1 j β B h2 h3]
      simp only [φe]
      rw [if_pos ⟨j, B, h2, h3⟩]; simp
    · rw [hst2 β h1]
      simp only [φe]
      rw [if_neg h1]; exact h.heap.born β
  · rw [promo_next] at hb
    rw [hst2 β (fun ⟨j, B, h2, h3⟩ => by have := (h.hid j β B h2).2.2.2.2; omega)]
    exact h.heap.fresh β hb
  · rw [AH.get_eq] at hb
    by_cases h1 : HSp β
    · obtain ⟨j, B', h2, h3⟩ := h1
      rw [hst1 j β B' h2 h3] at hb
      cases hb
      refine ⟨bl β, 0, by simp only [φe]; rw [if_pos ⟨j, _, h2, h3⟩], ?_⟩
      refine (h.hS j β _ h2 (hm j h3)).1.less hless fun id hid => ?_
      obtain ⟨j', B'', h4, h5⟩ := (h.hs id).1 hid.1
      have h6 : ¬ m.testBit j' = true := fun h7 => hid.2 ⟨j', B'', h4, h7⟩
      exact hment (j', id, B'') (List.mem_filter.2 ⟨h4, by simp only [hidIn]; simpa using h6⟩) (j, β, _) (List.mem_filter.2 ⟨h2, h3⟩)
    · rw [hst2 β h1] at hb
      obtain ⟨b, δ, e, r⟩ := h.heap.blk β B (AH.get_eq.2 hb)
      refine ⟨b, δ, by simp only [φe]; rw [if_neg h1]; exact e, r.ext0 hx rfl⟩
  · simp only [φe] at hb
    split at hb
    · rename_i h1
      obtain ⟨j, B, h2, h3⟩ := h1
      exact ⟨B, AH.get_eq.2 (hst1 j β B h2 h3)⟩
    · rename_i h1
      obtain ⟨B, hB⟩ := h.heap.live β b δ hb
      exact ⟨B, by rw [AH.get_eq] at hB ⊢; rw [hst2 β h1]; exact hB⟩
  · simp only [φe] at h1 h2
    split at h1 <;> split at h2
    · rename_i a1 a2
      cases h1
      have : bl β = bl γ := by injection h2 with e _; exact e.symm
      exact h.hinj β γ (hpS _ a1) (hpS _ a2) this
    · rename_i a1 a2
      cases h1
      obtain ⟨j, B, h4, h5⟩ := a1
      exact absurd ⟨γ, δ', h2⟩ (h.hS j β B h4 (hm j h5)).2.2.2
    · rename_i a1 a2
      cases h2
      obtain ⟨j, B, h4, h5⟩ := a2
      exact absurd ⟨β, δ, h1⟩ (h.hS j γ B h4 (hm j h5)).2.2.2
    · exact h.heap.inj _ _ _ _ _ h1 h2
  · rcases (hlv b).1 hl with h1 | ⟨id', h1, rfl⟩
    · exact h.heap.dis b ((h.priv b).2 (hb.elim .inl (fun ⟨id, hi, e⟩ => .inr ⟨id, hi.1, e⟩))) h1
    · rcases hb with h2 | ⟨id, h2, e⟩
      · obtain ⟨j, B, h4, h5⟩ := h1
        have := (h.hS j id' B h4 (hm j h5)).2.1
        have := h.p0 _ h2
        omega
      · have := h.hinj _ _ (hpS _ h1) h2.1 e
        subst this
        exact h2.2 h1

theorem step_old (hC : C.Ok) (hD : DrawOk ops ord) (hG : GRel C φ₀ w₀) (h : Inv C D ops ord K φ₀ w₀ fr₀ S HS φ bl a w done rest s fri kd val)
    (hh : ∀ i r, rest = i :: r → ∃ o, ops[i]? = some o ∧ isE o = true) {i : Nat} {o : Oper} (hi : i ∈ done) (ho : ops[i]? = some o) (hE : isE o = false) (hn : ¬ S i) (hp : ∀ j, Pred ops i j → S j)
    (Q : Go.Exit → Act → World → Prop) : wpOp C.P ops Q i (InvX C D ops ord K φ₀ w₀ fr₀ (fun j => S j ∨ j = i)) a w := by
  have hu : ∀ id, HS id → φ id = .unborn := fun id hi => h.hidden_unborn hi
  have hrd := h.reads hD hi ho hE hn hp
  have hk := (h.recd i hi o ho hE).1
  have hxf := ext_full (w := w) hu h.priv
  have hG' : GRel C (full φ φ₀ HS bl) w := by
    intro g cs hg
    have h0 := hG g cs hg
    have e1 : Ext0 φ₀ w₀ φ w := by
      refine ⟨h.ext.mono, h.ext.keep, fun b hb => ?_, h.ext.shape⟩
      rcases hb with hb | hb
      · rcases h.ext.lv b hb with h1 | h1
        · exact .inl (.inl h1)
        · exact .inr h1
      · rcases (h.priv b).1 hb with h1 | ⟨id, h1, rfl⟩
        · exact .inl (.inr h1)
        · obtain ⟨j, B, h2, h3⟩ := (h.hs id).1 h1
          exact .inr (h.hS j id B h2 h3).2.1
    exact CRel.ext0 hxf g 0 cs (CRel.ext0 e1 g 0 cs h0)
  have hops : OpsRel (full φ φ₀ HS bl) w (evalR C (fri i) (opTmps o)) a.eval :=
    opsRelR hG' fun t ht v hv => hrd t (List.mem_append_left _ ht) v hv
  have same : (∀ id B mk, kd i ≠ .new id B mk) → ∀ y, VRel (full φ φ₀ HS bl) w (kd i).v y → InvX C D ops ord K φ₀ w₀ fr₀ (fun j => S j ∨ j = i) (a.put o.dst y) w := by
    intro hnn y hy
    refine ⟨HS, φ, bl, done, rest, s, fri, kd, val, h.commit hD hi ho hE hn hp ⟨fun _ _ => .inl rfl, fun _ _ _ => rfl, fun _ h => .inl h, fun _ _ h => h⟩ hy h.heap (fun id => ?_) (fun j id B hm hj => ?_) h.hinj h.priv h.ext, hh⟩
    · rw [h.hs id]
      constructor
      · rintro ⟨j, B, h1, h2⟩; exact ⟨j, B, h1, .inl h2⟩
      · rintro ⟨j, B, h1, h2 | rfl⟩
        · exact ⟨j, B, h1, h2⟩
        · obtain ⟨_, _, ⟨mk, h3⟩, _⟩ := h.hid j id B h1
          exact absurd h3 (hnn _ _ _)
    · rcases hj with hj | rfl
      · exact h.hS j id B hm hj
      · obtain ⟨_, _, ⟨mk, h3⟩, _⟩ := h.hid j id B hm
        exact absurd h3 (hnn _ _ _)
  unfold wpOp
  rw [ho]
  simp only
  cases hkd : kd i with
  | skip =>
    rw [hkd] at hk
    rw [wanted_sound' hk hrd, if_neg (by simp)]
    exact same (by rw [hkd]; simp) undef (by rw [hkd]; exact ⟨#[], rfl, rfl⟩)
  | imm v =>
    rw [hkd] at hk
    rw [wanted_sound' hk.1 hrd, if_pos rfl]
    left
    unfold Oper.wp
    have : ∃ y, (execOp a.eval o).run C.P w = .ok (.value y) w ∧ VRel (full φ φ₀ HS bl) w v y := by
      rcases hk.2 with h1 | h1
      · exact pureOp_sound hC hops h1
      · exact readOp_sound hC hops h1
    obtain ⟨y, hy, hr⟩ := this
    rw [hy]
    exact same (by rw [hkd]; simp) y (by rw [hkd]; exact hr)
  | «at» β f v =>
    rw [hkd] at hk
    rw [wanted_sound' hk.1 hrd, if_pos rfl]
    left
    unfold Oper.wp
    have hwat := h.watch _ _ _ _ (h.watc i hi o ho hE β f v hkd hn)
    obtain ⟨B, hB, hf⟩ := Option.bind_eq_some_iff.1 hwat
    obtain ⟨b, δ, hφ, hrel⟩ := h.heap.liveOf hB
    have hs1 := readOp_sound hC hops hk.2
    have hφf : full φ φ₀ HS bl β = .live b δ := by
      simp only [full]
      rw [if_neg (fun hb => by rw [hu β hb] at hφ; cases hφ)]; exact hφ
    obtain ⟨y, hy, hr⟩ := hs1 b δ B v hφf (hrel.ext0 hxf rfl) hf
    rw [hy]
    exact same (by rw [hkd]; simp) y (by rw [hkd]; exact hr)
  | new id B mk =>
    rw [hkd] at hk
    rw [wanted_sound' hk.1 hrd, if_pos rfl]
    left
    unfold Oper.wp
    obtain ⟨y, w₁, ob, hy, hw, hnr⟩ := newOp_sound hC hops hk.2
    rw [hy]
    have hmem := h.hidc i hi o ho hE id B mk hkd hn
    obtain ⟨_, _, _, hst, hlt⟩ := h.hid _ _ _ hmem
    have hnHS : ¬ HS id := by
      intro h1
      obtain ⟨j, B', h2, h3⟩ := (h.hs id).1 h1
      have := h.hidu _ _ _ _ _ hmem h2
      exact hn (this ▸ h3)
    have hun : φ id = .unborn := (h.heap.born id).2 hst
    have hblt : ∀ j, HS j → bl j < w.heap.size := fun j hj => by
      obtain ⟨j', B', h2, h3⟩ := (h.hs j).1 hj
      exact (h.hS _ _ _ h2 h3).2.2.1
    let HS' : Nat → Prop := fun j => HS j ∨ j = id
    let bl' : Nat → Nat := updN bl id w.heap.size
    let φ' : Env := ⟨φ.loc, fun b => φ.priv b ∨ b = w.heap.size⟩
    have hbl' : ∀ j, HS j → bl' j = bl j := fun j hj => updN_ne _ _ (fun e => hnHS (e ▸ hj))
    have hpriv' : ∀ b, φ'.priv b ↔ φ₀.priv b ∨ ∃ j, HS' j ∧ b = bl' j := by
      intro b
      show φ.priv b ∨ b = w.heap.size ↔ _
      rw [h.priv b]
      constructor
      · rintro ((h1 | ⟨j, h1, h2⟩) | h1)
        · exact .inl h1
        · exact .inr ⟨j, .inl h1, by rw [hbl' j h1]; exact h2⟩
        · exact .inr ⟨id, .inr rfl, by rw [show bl' id = w.heap.size from updN_self _ _ _]; exact h1⟩
      · rintro (h1 | ⟨j, h1 | rfl, h2⟩)
        · exact .inl (.inl h1)
        · exact .inl (.inr ⟨j, h1, by rw [hbl' j h1] at h2; exact h2⟩)
        · exact .inr (by rw [show bl' j = w.heap.size from updN_self _ _ _] at h2; exact h2)
    have hu' : ∀ j, HS' j → φ' j = .unborn := by
      rintro j (h1 | rfl)
      · exact hu j h1
      · exact hun
    have hsz : w₁.heap.size = w.heap.size + 1 := by rw [hw.heap]; simp
    have hfull' : ∀ β, full φ' φ₀ HS' bl' β = if β = id then .live w.heap.size 0 else full φ φ₀ HS bl β := by
      intro β
      simp only [full]
      by_cases e : β = id
      · subst e
        rw [if_pos rfl, if_pos (show HS' β from .inr rfl), show bl' β = w.heap.size from updN_self _ _ _]
      · rw [if_neg e]
        by_cases h1 : HS β
        · rw [if_pos h1, if_pos (show HS' β from .inl h1), hbl' β h1]
        · rw [if_neg h1, if_neg (show ¬ HS' β from fun h2 => h2.elim h1 e)]
    have hxw : Ext (full φ φ₀ HS bl) w (full φ' φ₀ HS' bl') w₁ := by
      refine ⟨fun β hb => ?_, fun b hb _ => hw.old hb, fun b hb => ?_, fun b sh hs => ?_, by omega, rfl, hw.os, hw.tape, hw.output⟩
      · left
        rw [hfull', if_neg]
        rintro rfl
        apply hb
        simp only [full]
        rw [if_neg hnHS]; exact hun
      · rw [full_lv hu'] at hb
        rw [full_lv hu]
        rcases hb with h1 | ⟨j, h1 | rfl, rfl⟩
        · exact .inl (.inl h1)
        · exact .inl (.inr ⟨j, h1, hbl' j h1⟩)
        · exact .inr (by rw [show bl' j = w.heap.size from updN_self _ _ _]; exact Nat.le_refl _)
      · have hb : b < w.heap.size := by
          rcases Nat.lt_or_ge b w.heap.size with x | x
          · exact x
          · simp [World.shape?, Array.getElem?_eq_none x] at hs
        rw [shape?_of_block (hw.old hb)]; exact hs
    have hid' : full φ' φ₀ HS' bl' id = .live w.heap.size 0 := by rw [hfull', if_pos rfl]
    obtain ⟨hB', hv'⟩ := hnr _ id hxw hid'
    have hx0 : Ext0 φ w φ' w₁ := by
      refine ⟨fun _ _ => .inl rfl, fun b hb _ => hw.old hb, fun b hb => ?_, hxw.shape⟩
      rcases hb with hb | hb | hb
      · exact .inl (.inl hb)
      · exact .inl (.inr hb)
      · exact .inr (by omega)
    have hold : ∀ β b δ, φ β = .live b δ → b < w.heap.size := fun β b δ e => by
      obtain ⟨B', hb⟩ := h.heap.live β b δ e
      obtain ⟨b', δ', e', r⟩ := h.heap.blk β B' hb
      rw [e] at e'; cases e'; exact r.lt
    have heap' : HRel φ' s.A w₁ := by
      refine ⟨h.heap.born, h.heap.fresh, fun β B' hb => ?_, h.heap.live, h.heap.inj, fun b hb => by rw [hw.heap, Array.size_push]; exact hb.elim (fun x => Nat.lt_succ_of_lt (h.heap.prv b x)) (fun e => by rw [e]; exact Nat.lt_succ_self _), fun b hb ⟨γ, δ, hl⟩ => hb.elim (fun x => h.heap.dis b x ⟨γ, δ, hl⟩) (fun e => by have := hold γ b δ hl; omega)⟩
      obtain ⟨b, δ, e, r⟩ := h.heap.blk β B' hb
      exact ⟨b, δ, e, r.ext0 hx0 (hw.old r.lt)⟩
    refine ⟨HS', φ', bl', done, rest, s, fri, kd, val, h.commit hD hi ho hE hn hp hxw.to0 (by rw [hkd]; exact hv') heap' (fun j => ?_) (fun j id2 B2 hm hj => ?_) ?_ hpriv' ?_, hh⟩
    · show HS j ∨ j = id ↔ _
      rw [h.hs j]
      constructor
      · rintro (⟨j', B', h1, h2⟩ | rfl)
        · exact ⟨j', B', h1, .inl h2⟩
        · exact ⟨i, B, hmem, .inr rfl⟩
      · rintro ⟨j', B', h1, h2 | rfl⟩
        · exact .inl ⟨j', B', h1, h2⟩
        · obtain ⟨_, _, ⟨mk', h3⟩, _⟩ := h.hid _ _ _ h1
          rw [hkd] at h3; cases h3
          exact .inr rfl
    · rcases hj with hj | rfl
      · obtain ⟨r1, r2, r3, r4⟩ := h.hS j id2 B2 hm hj
        have hHS : HS id2 := (h.hs id2).2 ⟨j, B2, hm, hj⟩
        rw [hbl' id2 hHS]
        exact ⟨r1.ext0 hxw.to0 (hw.old r3), r2, by omega, r4⟩
      · obtain ⟨_, _, ⟨mk', h3⟩, _⟩ := h.hid _ _ _ hm
        rw [hkd] at h3; cases h3
        rw [show bl' id = w.heap.size from updN_self _ _ _]
        refine ⟨hB', h.ext.size, by omega, ?_⟩
        rintro ⟨β, δ, e⟩
        have := hold β _ δ e
        omega
    · rintro p q (h1 | rfl) (h2 | rfl) h3
      · rw [hbl' p h1, hbl' q h2] at h3; exact h.hinj p q h1 h2 h3
      · rw [hbl' p h1, show bl' q = w.heap.size from updN_self _ _ _] at h3
        have := hblt p h1; omega
      · rw [hbl' q h2, show bl' p = w.heap.size from updN_self _ _ _] at h3
        have := hblt q h2; omega
      · rfl
    · have he := h.ext
      refine ⟨he.mono, fun b hb hn => ?_, he.lv, fun b sh hs => hxw.shape b sh (he.shape b sh hs), by have := he.size; omega, rfl, hw.os.trans he.os, hw.tape.trans he.tape, hw.output.trans he.output⟩
      rw [hw.old (Nat.lt_of_lt_of_le hb he.size)]; exact he.keep b hb hn
end
end Go.Am

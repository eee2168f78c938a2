/- A part of the proof about cellularlaw49.OrphanBalanced: lemmas only; what they say is theirs alone and no condition of the claim. -/
import Derived.Test.YtjdldndhbbkflaaGreatDoorAmSeat
import Derived.Test.YtjdldndhbbkflaaGreatDoorAmG
set_option autoImplicit false
set_option linter.unusedVariables false
set_option linter.unusedSimpArgs false
noncomputable section
namespace Go.Am.Seat
open Go Go.Am
noncomputable def ty3 : TyI := ⟨Go.TypeDesc.int (Go.IntKind.i64), 1, 8, [.int .i64 0], true⟩
theorem T3 : E.C.T 3 = some ty3 := by kernel_rfl
noncomputable def ty4 : TyI := ⟨Go.TypeDesc.bool, 1, 1, [.bool false], true⟩
theorem T4 : E.C.T 4 = some ty4 := by kernel_rfl
noncomputable def ty22 : TyI := ⟨Go.TypeDesc.slice 53, 1, 24, [.vec true 0 (some 0) []], true⟩
theorem T22 : E.C.T 22 = some ty22 := by kernel_rfl
noncomputable def ty23 : TyI := ⟨Go.TypeDesc.slice 49, 1, 24, [.vec true 0 (some 0) []], true⟩
theorem T23 : E.C.T 23 = some ty23 := by kernel_rfl
noncomputable def ty25 : TyI := ⟨Go.TypeDesc.struct   #[{ name := "States", type := 3, offset := 0, embedded := false, tag := "", pkgPath := "", byteOffset := 0 },     { name := "Hood", type := 22, offset := 1, embedded := false, tag := "", pkgPath := "", byteOffset := 8 },     { name := "Nodes", type := 23, offset := 2, embedded := false, tag := "", pkgPath := "", byteOffset := 32 }], 3, 56, [.int .i64 0, .vec true 0 (some 0) [], .vec true 0 (some 0) []], true⟩
theorem T25 : E.C.T 25 = some ty25 := by kernel_rfl
noncomputable def ty29 : TyI := ⟨Go.TypeDesc.slice 3, 1, 24, [.vec true 0 (some 0) []], true⟩
theorem T29 : E.C.T 29 = some ty29 := by kernel_rfl
noncomputable def ty32 : TyI := ⟨Go.TypeDesc.int (Go.IntKind.i64), 1, 8, [.int .i64 0], true⟩
theorem T32 : E.C.T 32 = some ty32 := by kernel_rfl
noncomputable def ty37 : TyI := ⟨Go.TypeDesc.slice 42, 1, 24, [.vec true 0 (some 0) []], true⟩
theorem T37 : E.C.T 37 = some ty37 := by kernel_rfl
noncomputable def ty40 : TyI := ⟨Go.TypeDesc.slice 76, 1, 24, [.vec true 0 (some 0) []], true⟩
theorem T40 : E.C.T 40 = some ty40 := by kernel_rfl
noncomputable def ty42 : TyI := ⟨Go.TypeDesc.struct   #[{ name := "Neg", type := 4, offset := 0, embedded := false, tag := "", pkgPath := "", byteOffset := 0 },     { name := "Mag", type := 40, offset := 1, embedded := false, tag := "", pkgPath := "", byteOffset := 8 }], 2, 32, [.bool false, .vec true 0 (some 0) []], true⟩
theorem T42 : E.C.T 42 = some ty42 := by kernel_rfl
noncomputable def ty45 : TyI := ⟨Go.TypeDesc.func #[42] #[4] false, 1, 8, [.nilFunc], true⟩
theorem T45 : E.C.T 45 = some ty45 := by kernel_rfl
noncomputable def ty49 : TyI := ⟨Go.TypeDesc.struct   #[{ name := "Level", type := 3, offset := 0, embedded := false, tag := "", pkgPath := "", byteOffset := 0 },     { name := "Next", type := 29, offset := 1, embedded := false, tag := "", pkgPath := "", byteOffset := 8 }], 2, 32, [.int .i64 0, .vec true 0 (some 0) []], true⟩
theorem T49 : E.C.T 49 = some ty49 := by kernel_rfl
noncomputable def ty53 : TyI := ⟨Go.TypeDesc.struct   #[{ name := "X", type := 3, offset := 0, embedded := false, tag := "", pkgPath := "", byteOffset := 0 },     { name := "Y", type := 3, offset := 1, embedded := false, tag := "", pkgPath := "", byteOffset := 8 }], 2, 16, [.int .i64 0, .int .i64 0], true⟩
theorem T53 : E.C.T 53 = some ty53 := by kernel_rfl
noncomputable def ty64 : TyI := ⟨Go.TypeDesc.pointer 67, 1, 8, [.nilptr], true⟩
theorem T64 : E.C.T 64 = some ty64 := by kernel_rfl
noncomputable def ty65 : TyI := ⟨Go.TypeDesc.map 3 37, 1, 8, [.nilmap], true⟩
theorem T65 : E.C.T 65 = some ty65 := by kernel_rfl
noncomputable def ty67 : TyI := ⟨Go.TypeDesc.struct   #[{ name := "tree",       type := 25,       offset := 0,       embedded := false,       tag := "",       pkgPath := "cellular/orphan",       byteOffset := 0 },     { name := "known",       type := 65,       offset := 3,       embedded := false,       tag := "",       pkgPath := "cellular/orphan",       byteOffset := 56 }], 4, 64, [.int .i64 0, .vec true 0 (some 0) [], .vec true 0 (some 0) [], .nilmap], true⟩
theorem T67 : E.C.T 67 = some ty67 := by kernel_rfl
noncomputable def ty71 : TyI := ⟨Go.TypeDesc.slice 37, 1, 24, [.vec true 0 (some 0) []], true⟩
theorem T71 : E.C.T 71 = some ty71 := by kernel_rfl
noncomputable def ty72 : TyI := ⟨Go.TypeDesc.int (Go.IntKind.u64), 1, 8, [.int .u64 0], true⟩
theorem T72 : E.C.T 72 = some ty72 := by kernel_rfl
noncomputable def ty76 : TyI := ⟨Go.TypeDesc.int (Go.IntKind.u32), 1, 4, [.int .u32 0], true⟩
theorem T76 : E.C.T 76 = some ty76 := by kernel_rfl
noncomputable def ty120 : TyI := ⟨Go.TypeDesc.int (Go.IntKind.u64), 1, 8, [.int .u64 0], true⟩
theorem T120 : E.C.T 120 = some ty120 := by kernel_rfl
end Go.Am.Seat

namespace Go.Am
open Go

/-! ## walking with variables: regions in the order of the text -/
section
variable {C : Cx} {A : AH} {fr : Fr} {ops : Array Oper} {K : Fr → AH → Prop} {o : Oper} {rest : List Oper}

theorem s_nil (h : K fr A) : seqWp C ops K [] fr A := h
theorem s_skip (hf : fr.fits o.dst = true) (hw : wantedA ops fr o = some false) (k : seqWp C ops K rest (fr.put o.dst (.tuple [])) A) : seqWp C ops K (o :: rest) fr A := by
  refine ⟨hf, ?_⟩; rw [hw]; exact k
theorem s_pure {v : AV} (hf : fr.fits o.dst = true) (hw : wantedA ops fr o = some true) (h : pureOp C (evalO C fr) o.op = some v) (k : seqWp C ops K rest (fr.put o.dst v) A) : seqWp C ops K (o :: rest) fr A := by
  refine ⟨hf, ?_⟩; rw [hw]; exact .inl ⟨v, h, k⟩
theorem s_split {b : Bool} (hf : fr.fits o.dst = true) (hw : wantedA ops fr o = some true) (h : pureOp C (evalO C fr) o.op = some (.bool b)) (kt : b = true → seqWp C ops K rest (fr.put o.dst (.bool true)) A)
    (kf : b = false → seqWp C ops K rest (fr.put o.dst (.bool false)) A) : seqWp C ops K (o :: rest) fr A := by
  refine s_pure hf hw h ?_
  cases b
  · exact kf rfl
  · exact kt rfl
theorem s_splitP {b : Bool} {P : Prop} (hf : fr.fits o.dst = true) (hw : wantedA ops fr o = some true) (h : pureOp C (evalO C fr) o.op = some (.bool b)) (hP : b = true ↔ P) (kt : P → seqWp C ops K rest (fr.put o.dst (.bool true)) A)
    (kf : ¬ P → seqWp C ops K rest (fr.put o.dst (.bool false)) A) : seqWp C ops K (o :: rest) fr A :=
  s_split hf hw h (fun e => kt (hP.1 e)) (fun e => kf (fun p => by rw [hP.2 p] at e; cases e))
theorem s_imm {v : AV} (hf : fr.fits o.dst = true) (hw : wantedA ops fr o = some true) (h : readOp C (evalO C fr) o.op = some (.imm v)) (k : seqWp C ops K rest (fr.put o.dst v) A) : seqWp C ops K (o :: rest) fr A := by
  refine ⟨hf, ?_⟩; rw [hw]; exact .inr (.inl ⟨_, v, h, rfl, k⟩)
theorem s_read {v : AV} {β : Nat} {f : ABlk → Option AV} {B : ABlk} (hf : fr.fits o.dst = true) (hw : wantedA ops fr o = some true) (h : readOp C (evalO C fr) o.op = some (.at β f)) (hg : A.get β = some B) (hv : f B = some v)
    (k : seqWp C ops K rest (fr.put o.dst v) A) : seqWp C ops K (o :: rest) fr A := by
  refine ⟨hf, ?_⟩; rw [hw]; exact .inr (.inl ⟨_, v, h, by simp only [RRes.val, hg, Option.bind_some, hv], k⟩)
theorem s_new {B : ABlk} {mk : Nat → AV} (hf : fr.fits o.dst = true) (hw : wantedA ops fr o = some true) (h : newOp C (evalO C fr) o.op = some (B, mk)) (k : seqWp C ops K rest (fr.put o.dst (mk A.next)) (A.alloc B)) :
    seqWp C ops K (o :: rest) fr A := by
  refine ⟨hf, ?_⟩; rw [hw]; exact .inr (.inr (.inl ⟨B, mk, h, k⟩))
theorem s_eff {v : AV} {A' : AH} (hf : fr.fits o.dst = true) (hw : wantedA ops fr o = some true) (h : effOp C (evalO C fr) o.op A = some (v, A')) (k : seqWp C ops K rest (fr.put o.dst v) A') : seqWp C ops K (o :: rest) fr A := by
  refine ⟨hf, ?_⟩; rw [hw]; exact .inr (.inr (.inr (.inl ⟨v, A', h, k⟩)))
theorem s_call {f : FuncId} {args : List AV} {R : AV → AH → Prop} (hf : fr.fits o.dst = true) (hw : wantedA ops fr o = some true) (h : callA (evalO C fr) o.op = some (f, args)) (hc : ACall C f args A R)
    (k : ∀ r A', R r A' → seqWp C ops K rest (fr.put o.dst r) A') : seqWp C ops K (o :: rest) fr A := by
  refine ⟨hf, ?_⟩; rw [hw]; exact .inr (.inr (.inr (.inr ⟨f, args, h, hc.mono k⟩)))

/-- a call that leaves memory alone, wherever it stands -/
def PureR (C : Cx) (f : FuncId) (args : List AV) (R : AV → Prop) : Prop := ∀ A, ACall C f args A fun r A' => A' = A ∧ R r
theorem PureR.mono {f : FuncId} {args : List AV} {R R' : AV → Prop} (h : PureR C f args R) (hr : ∀ r, R r → R' r) : PureR C f args R' := fun A => (h A).mono fun r A' ⟨a, b⟩ => ⟨a, hr r b⟩
theorem s_callp {f : FuncId} {args : List AV} {R : AV → Prop} (hf : fr.fits o.dst = true) (hw : wantedA ops fr o = some true) (h : callA (evalO C fr) o.op = some (f, args)) (hc : PureR C f args R)
    (k : ∀ r, R r → seqWp C ops K rest (fr.put o.dst r) A) : seqWp C ops K (o :: rest) fr A :=
  s_call hf hw h (hc A) fun r A' ⟨e, hr⟩ => e ▸ k r hr

/-- a call that ran on the empty memory, and whose result can be frozen, leaves every memory alone -/
theorem PureR.of_empty (hP : C.Plain) {f : FuncId} {args : List AV} {R : AV → Prop} (ha : noBlks args = true) (h : ACall C f args AH.empty fun r A' => ∃ k u, freeze k A' r = some u ∧ R u) : PureR C f args R := by
  intro A
  refine ⟨h.1, fun φ w vs hA hG hv => ?_⟩
  let φ₀ : Env := ⟨fun _ => .unborn, fun b => Im φ b⟩
  have hLv : ∀ b, ¬ Lv φ₀ b := fun b ⟨β, δ, e⟩ => by cases e
  have hIm : ∀ b, Im φ₀ b ↔ Im φ b := fun b => ⟨fun x => x.elim (fun y => (hLv b y).elim) (fun y => y), fun x => .inr x⟩
  have hlt : ∀ b, Lv φ b → b < w.heap.size := fun b => Env.lv_lt hA
  have hless : Less φ φ₀ (fun _ => True) := ⟨fun β hn => (hn trivial).elim, fun b x => (hIm b).1 x⟩
  have hA₀ : HRel φ₀ AH.empty w := ⟨fun β => by constructor <;> intro _ <;> rfl, fun _ _ => rfl, fun β B hB => (by cases hB), fun β b δ e => (by cases e), fun β γ b δ δ' e => (by cases e), fun b x => x.elim (hlt b) (hA.prv b), fun b _ => hLv b⟩
  have hG₀ : GRel C φ₀ w := fun g cs hg => by
    exact CRel.less hless g 0 cs (fun i _ => noBlks_ment i cs (hP g cs hg)) (hG g cs hg)
  refine (h.2 φ₀ w vs hA₀ hG₀ (VRels.less hless args vs.toList (fun i _ => noBlks_ment i args ha) hv)).mono fun e w' ⟨y, φ', r', A₁, he, h1, h2, h3, k, u, hf, hR⟩ => ?_
  have hI : ∀ b, Im φ b → Im φ' b ∧ ¬ Lv φ' b := fun b x => ⟨.inr (by rw [h3.priv]; exact x), fun y => (h3.lv b y).elim (hLv b) (fun z => by
    have : b < w.heap.size := x.elim (hlt b) (hA.prv b)
    omega)⟩
  have hE : Ext φ w φ w' := ⟨fun _ _ => .inl rfl, fun b hb _ => h3.keep b hb (hLv b), fun _ x => .inl x, h3.shape, h3.size, rfl, h3.os, h3.tape, h3.output⟩
  refine ⟨y, φ, u, A, he, freeze_sound h2 hI _ _ _ hf h1, ⟨hA.born, hA.fresh, fun β B hB => ?_, hA.live, hA.inj, fun b hb => Nat.lt_of_lt_of_le (hA.prv b hb) h3.size, hA.dis⟩, hE, rfl, hR⟩
  obtain ⟨b, δ, e, x⟩ := hA.blk β B hB
  exact ⟨b, δ, e, x.ext hE (h3.keep b x.lt (hLv b))⟩
end

/-! ## regions that draw their order -/
section
variable {C : Cx} {A : AH} {fr : Fr} {ops : Array Oper} {ms : List Nat} {K : Fr → AH → Prop} {o : Oper} {i : Nat} {rest : List Nat} {hid : List (Nat × Nat × ABlk)} {J : List Nat}

/-- J: which operations have read memory since the last effect -/
def qWp (C : Cx) (ops : Array Oper) (ms : List Nat) (K : Fr → AH → Prop) (l : List Nat) (fr : Fr) (A : AH) (hid : List (Nat × Nat × ABlk)) (J : List Nat) : Prop :=
  ∀ W : List (Nat × Nat × (ABlk → Option AV) × AV), (∀ x ∈ W, x.1 ∈ J ∧ (A.get x.2.1).bind x.2.2.1 = some x.2.2.2) → canWp C ops ms K l ⟨fr, A, hid, W⟩
theorem q_nil (h : K fr (promo hid A)) : qWp C ops ms K [] fr A hid J := fun W _ => h
theorem q_skip (ho : ops[i]? = some o) (hf : fr.fits o.dst = true) (hw : wantedA ops fr o = some false) (k : qWp C ops ms K rest (fr.put o.dst (.tuple [])) A hid J) : qWp C ops ms K (i :: rest) fr A hid J :=
  fun W hW => ⟨o, ho, hf, .inl ⟨hw, k W hW⟩⟩
theorem q_pure {v : AV} (ho : ops[i]? = some o) (hf : fr.fits o.dst = true) (hw : wantedA ops fr o = some true) (he : isE o = false) (h : pureOp C (evalR C fr (opTmps o)) o.op = some v)
    (k : qWp C ops ms K rest (fr.put o.dst v) A hid J) : qWp C ops ms K (i :: rest) fr A hid J :=
  fun W hW => ⟨o, ho, hf, .inr ⟨hw, by rw [he]; exact .inl ⟨v, .inl h, k W hW⟩⟩⟩
theorem q_split {b : Bool} (ho : ops[i]? = some o) (hf : fr.fits o.dst = true) (hw : wantedA ops fr o = some true) (he : isE o = false) (h : pureOp C (evalR C fr (opTmps o)) o.op = some (.bool b))
    (kt : b = true → qWp C ops ms K rest (fr.put o.dst (.bool true)) A hid J) (kf : b = false → qWp C ops ms K rest (fr.put o.dst (.bool false)) A hid J) : qWp C ops ms K (i :: rest) fr A hid J := by
  refine q_pure ho hf hw he h ?_
  cases b
  · exact kf rfl
  · exact kt rfl
theorem q_splitP {b : Bool} {P : Prop} (ho : ops[i]? = some o) (hf : fr.fits o.dst = true) (hw : wantedA ops fr o = some true) (he : isE o = false) (h : pureOp C (evalR C fr (opTmps o)) o.op = some (.bool b)) (hP : b = true ↔ P)
    (kt : P → qWp C ops ms K rest (fr.put o.dst (.bool true)) A hid J) (kf : ¬ P → qWp C ops ms K rest (fr.put o.dst (.bool false)) A hid J) : qWp C ops ms K (i :: rest) fr A hid J :=
  q_split ho hf hw he h (fun e => kt (hP.1 e)) (fun e => kf (fun p => by rw [hP.2 p] at e; cases e))
theorem q_imm {v : AV} (ho : ops[i]? = some o) (hf : fr.fits o.dst = true) (hw : wantedA ops fr o = some true) (he : isE o = false) (h : readOp C (evalR C fr (opTmps o)) o.op = some (.imm v))
    (k : qWp C ops ms K rest (fr.put o.dst v) A hid J) : qWp C ops ms K (i :: rest) fr A hid J :=
  fun W hW => ⟨o, ho, hf, .inr ⟨hw, by rw [he]; exact .inl ⟨v, .inr h, k W hW⟩⟩⟩
theorem q_read {v : AV} {β : Nat} {f : ABlk → Option AV} {B : ABlk} (ho : ops[i]? = some o) (hf : fr.fits o.dst = true) (hw : wantedA ops fr o = some true) (he : isE o = false)
    (h : readOp C (evalR C fr (opTmps o)) o.op = some (.at β f)) (hg : A.get β = some B) (hv : f B = some v) (k : qWp C ops ms K rest (fr.put o.dst v) A hid (i :: J)) : qWp C ops ms K (i :: rest) fr A hid J :=
  fun W hW => by
    have e : (A.get β).bind f = some v := by rw [hg]; exact hv
    refine ⟨o, ho, hf, .inr ⟨hw, ?_⟩⟩
    rw [he]
    refine .inr (.inl ⟨β, f, v, h, e, k _ fun x hx => ?_⟩)
    rcases List.mem_cons.1 hx with rfl | hx
    · exact ⟨List.mem_cons_self, e⟩
    · exact ⟨List.mem_cons_of_mem _ (hW x hx).1, (hW x hx).2⟩
theorem q_new {B : ABlk} {mk : Nat → AV} (ho : ops[i]? = some o) (hf : fr.fits o.dst = true) (hw : wantedA ops fr o = some true) (he : isE o = false) (h : newOp C (evalR C fr (opTmps o)) o.op = some (B, mk))
    (k : qWp C ops ms K rest (fr.put o.dst (mk A.next)) A.reserve ((i, A.next, B) :: hid) J) : qWp C ops ms K (i :: rest) fr A hid J :=
  fun W hW => ⟨o, ho, hf, .inr ⟨hw, by rw [he]; exact .inr (.inr ⟨B, mk, h, k W hW⟩)⟩⟩
/-- an effect behind all that has been read and made so far -/
theorem q_eff {v : AV} {A' : AH} (ho : ops[i]? = some o) (hf : fr.fits o.dst = true) (hw : wantedA ops fr o = some true) (he : isE o = true)
    (hH : (hid.all fun h => (ms.getD i 0).testBit h.1) = true) (hJ : (J.all fun j => (ms.getD i 0).testBit j) = true)
    (h : effOp C (evalR C fr (opTmps o)) o.op (promo hid A) = some (v, A')) (k : qWp C ops ms K rest (fr.put o.dst v) A' [] []) : qWp C ops ms K (i :: rest) fr A hid J :=
  fun W hW => by
    rw [List.all_eq_true] at hH hJ
    have e1 : hid.filter (fun h => !hidIn (ms.getD i 0) h) = [] := List.filter_eq_nil_iff.2 fun x hx => by simp only [hidIn, hH x hx]; decide
    have e2 : hid.filter (hidIn (ms.getD i 0)) = hid := List.filter_eq_self.2 fun x hx => hH x hx
    have e3 : W.filter (fun x => !watIn (ms.getD i 0) x) = [] := List.filter_eq_nil_iff.2 fun x hx => by simp only [watIn, hJ _ (hW x hx).1]; decide
    refine ⟨o, ho, hf, .inr ⟨hw, ?_⟩⟩
    rw [he]
    simp only [e1, e2, e3, if_true]
    exact ⟨fun _ h => by simp at h, .inl ⟨v, A', h, fun _ h => by simp at h, fun _ h => by simp at h, k [] fun _ h => by simp at h⟩⟩
theorem q_call {f : FuncId} {args : List AV} {R : AV → AH → Prop} (ho : ops[i]? = some o) (hf : fr.fits o.dst = true) (hw : wantedA ops fr o = some true) (he : isE o = true)
    (hH : (hid.all fun h => (ms.getD i 0).testBit h.1) = true) (hJ : (J.all fun j => (ms.getD i 0).testBit j) = true)
    (h : callA (evalR C fr (opTmps o)) o.op = some (f, args)) (hc : ACall C f args (promo hid A) R) (k : ∀ r A', R r A' → qWp C ops ms K rest (fr.put o.dst r) A' [] []) : qWp C ops ms K (i :: rest) fr A hid J :=
  fun W hW => by
    rw [List.all_eq_true] at hH hJ
    have e1 : hid.filter (fun h => !hidIn (ms.getD i 0) h) = [] := List.filter_eq_nil_iff.2 fun x hx => by simp only [hidIn, hH x hx]; decide
    have e2 : hid.filter (hidIn (ms.getD i 0)) = hid := List.filter_eq_self.2 fun x hx => hH x hx
    have e3 : W.filter (fun x => !watIn (ms.getD i 0) x) = [] := List.filter_eq_nil_iff.2 fun x hx => by simp only [watIn, hJ _ (hW x hx).1]; decide
    refine ⟨o, ho, hf, .inr ⟨hw, ?_⟩⟩
    rw [he]
    simp only [e1, e2, e3, if_true]
    exact ⟨fun _ h => by simp at h, .inr ⟨f, args, h, hc.mono fun r A' hr => ⟨fun _ h => by simp at h, fun _ h => by simp at h, k r A' hr [] fun _ h => by simp at h⟩⟩⟩
/-- a call that leaves memory alone; nothing is hidden -/
theorem q_callp {f : FuncId} {args : List AV} {R : AV → Prop} (ho : ops[i]? = some o) (hf : fr.fits o.dst = true) (hw : wantedA ops fr o = some true) (he : isE o = true)
    (h : callA (evalR C fr (opTmps o)) o.op = some (f, args)) (hc : PureR C f args R) (k : ∀ r, R r → qWp C ops ms K rest (fr.put o.dst r) A [] J) : qWp C ops ms K (i :: rest) fr A [] J :=
  fun W hW => by
    refine ⟨o, ho, hf, .inr ⟨hw, ?_⟩⟩
    rw [he]
    simp only [List.filter_nil, if_true]
    refine ⟨fun _ h => by simp at h, .inr ⟨f, args, h, (hc A).mono ?_⟩⟩
    rintro r A' ⟨rfl, hr⟩
    exact ⟨fun x hx => (hW x (List.mem_filter.1 hx).1).2, fun _ h => by simp at h, k r hr _ fun x hx => hW x (List.mem_filter.1 hx).1⟩
theorem AWp.drawq (hC : C.Ok) {id : Nat} {ord : List Nat} {Q : Go.Exit → Fr → AH → Prop} (hD : drawOkB ops ord = true) (h : qWp C ops (msOf ops) (Q .normal) ord fr A [] []) : AWp C (.region id ops true) fr A Q :=
  AWp.draw hC (drawOk_of hD) (h [] fun _ hx => by simp at hx)
end

/-! ## frames by lists -/
def frL (n : Nat) : List (Nat × AV) → Fr
  | [] => ⟨n, .nil⟩
  | p :: l => (frL n l).put (some p.1) p.2
def FrHas (fr : Fr) : List (Nat × AV) → Prop
  | [] => True
  | p :: l => fr.get p.1 = some p.2 ∧ FrHas fr l
theorem frL_n (n : Nat) : ∀ l, (frL n l).n = n
  | [] => rfl
  | p :: l => by rw [frL, Fr.n_put, frL_n n l]
theorem frL_get {n : Nat} : ∀ {l : List (Nat × AV)} {fr : Fr} {i : Nat} {v : AV}, FrHas fr l → (frL n l).get i = some v → fr.get i = some v
  | [], fr, i, v, _, h => by simp [frL, Fr.get, Trie.get_nil] at h
  | p :: l, fr, i, v, ⟨h1, h2⟩, h => by
    rw [frL, Fr.get_put] at h
    split at h
    · rename_i e; cases e; cases h; exact h1
    · exact frL_get h2 h
theorem Weak.frL {C : Cx} {fr : Fr} {A : AH} {n : Nat} {l : List (Nat × AV)} (hn : n = fr.n) (h : FrHas fr l) : Weak C fr A (Am.frL n l) A :=
  Weak.sub (by rw [frL_n, hn]) fun i v hv => frL_get h hv
end Go.Am

namespace Go.Am
open Go

/-! ## values of operations -/
section
variable {C : Cx} {ρ : Operand → Option AV} {A : AH}

theorem pv_bin {op : BinOp} {t t' : TypeId} {x y : Operand} {a b v : AV} (hx : ρ x = some a) (hy : ρ y = some b) (h : aBin C op t x y a b = some v) : pureOp C ρ (.binOp op t x y t') = some v := by
  simp only [pureOp, hx, hy, Option.bind_some, h]
theorem aBin_int {op : BinOp} {t : TypeId} {x y : Operand} {k : IntKind} {a b : Int} {v : AV} (h : aInt op k a b = some v) : aBin C op t x y (.int k a) (.int k b) = some v := by
  have : ¬ (op = .shl ∨ op = .shr) := by rintro (rfl | rfl) <;> simp [aInt] at h
  simp only [aBin, if_neg this, if_true, h]
theorem pv_int {op : BinOp} {t t' : TypeId} {x y : Operand} {k : IntKind} {a b : Int} {v : AV} (hx : ρ x = some (.int k a)) (hy : ρ y = some (.int k b)) (h : aInt op k a b = some v) : pureOp C ρ (.binOp op t x y t') = some v :=
  pv_bin hx hy (aBin_int h)
/-- int's arithmetic where it fits -/
theorem wrap_i64 {n : Int} (h0 : -9223372036854775808 ≤ n) (h1 : n ≤ 9223372036854775807) : IntKind.i64.wrap n = n := IntWalk.i64_in n ⟨h0, h1⟩
theorem pv_add {t t' : TypeId} {x y : Operand} {a b : Int} (hx : ρ x = some (.int .i64 a)) (hy : ρ y = some (.int .i64 b)) (h0 : -9223372036854775808 ≤ a + b) (h1 : a + b ≤ 9223372036854775807) :
    pureOp C ρ (.binOp .add t x y t') = some (.int .i64 (a + b)) := pv_int hx hy (by simp only [aInt, wrap_i64 h0 h1])
theorem pv_sub {t t' : TypeId} {x y : Operand} {a b : Int} (hx : ρ x = some (.int .i64 a)) (hy : ρ y = some (.int .i64 b)) (h0 : -9223372036854775808 ≤ a - b) (h1 : a - b ≤ 9223372036854775807) :
    pureOp C ρ (.binOp .sub t x y t') = some (.int .i64 (a - b)) := pv_int hx hy (by simp only [aInt, wrap_i64 h0 h1])
theorem pv_mul {t t' : TypeId} {x y : Operand} {a b : Int} (hx : ρ x = some (.int .i64 a)) (hy : ρ y = some (.int .i64 b)) (h0 : -9223372036854775808 ≤ a * b) (h1 : a * b ≤ 9223372036854775807) :
    pureOp C ρ (.binOp .mul t x y t') = some (.int .i64 (a * b)) := pv_int hx hy (by simp only [aInt, wrap_i64 h0 h1])
theorem pv_quo {t t' : TypeId} {x y : Operand} {a b : Int} (hx : ρ x = some (.int .i64 a)) (hy : ρ y = some (.int .i64 b)) (h0 : 0 ≤ a) (h1 : a ≤ 9223372036854775807) (hb : 1 ≤ b) :
    pureOp C ρ (.binOp .quo t x y t') = some (.int .i64 (a / b)) := by
  refine pv_int hx hy ?_
  have e : a.tdiv b = a / b := Int.tdiv_eq_ediv_of_nonneg h0
  have l1 : 0 ≤ a / b := Int.ediv_nonneg h0 (by omega)
  have l2 : a / b ≤ a := Int.ediv_le_self b h0
  simp only [aInt, if_neg (show ¬ b = 0 by omega), e, wrap_i64 (show -9223372036854775808 ≤ a / b by omega) (show a / b ≤ 9223372036854775807 by omega)]
theorem pv_rem {t t' : TypeId} {x y : Operand} {k : IntKind} {a b : Int} (hx : ρ x = some (.int k a)) (hy : ρ y = some (.int k b)) (h0 : 0 ≤ a) (hb : 1 ≤ b) :
    pureOp C ρ (.binOp .rem t x y t') = some (.int k (a % b)) := by
  refine pv_int hx hy ?_
  simp only [aInt, if_neg (show ¬ b = 0 by omega), Int.tmod_eq_emod_of_nonneg h0]
theorem pv_un {op : UnOp} {t : TypeId} {x : Operand} {a v : AV} (hx : ρ x = some a) (h : aUn op a = some v) : pureOp C ρ (.unOp op t x) = some v := by
  simp only [pureOp, hx, Option.bind_some, h]
theorem pv_mov {x : Operand} {v : AV} (hx : ρ x = some v) : pureOp C ρ (.move x) = some v := hx
theorem pv_asg {x : Operand} {v : AV} (hx : ρ x = some v) : pureOp C ρ (.assign x) = some v := hx
theorem pv_pickT {c a b : Operand} {v : AV} (hc : ρ c = some (.bool true)) (ha : ρ a = some v) : pureOp C ρ (.pick c a b) = some v := by
  simp only [pureOp, hc, Option.bind_some, if_true, ha]
theorem pv_pickF {c a b : Operand} {v : AV} (hc : ρ c = some (.bool false)) (hb : ρ b = some v) : pureOp C ρ (.pick c a b) = some v := by
  simp [pureOp, hc, hb]
theorem pv_ext {x : Operand} {i : Nat} {vs : List AV} {v : AV} (hx : ρ x = some (.tuple vs)) (h : vs[i]? = some v) : pureOp C ρ (.extract x i) = some v := by
  simp only [pureOp, hx, Option.bind_some, h]
theorem pv_len_sl {t e : TypeId} {ti : TyI} {x : Operand} {β o len es : Nat} {cap : Option Nat} (hT : C.T t = some ti) (hd : ti.desc = .slice e) (hx : ρ x = some (.slice β o len cap es)) :
    pureOp C ρ (.call ⟨.builtin .len, #[x], #[t]⟩) = some (.int .i64 len) := by
  simp [pureOp, omap, hx, aBuiltin, hT, hd]
theorem pv_len {t e : TypeId} {ti : TyI} {x : Operand} {nl : Bool} {len : Nat} {cap : Option Nat} {cs : List AV} (hT : C.T t = some ti) (hd : ti.desc = .slice e) (hx : ρ x = some (.vec nl len cap cs)) :
    pureOp C ρ (.call ⟨.builtin .len, #[x], #[t]⟩) = some (.int .i64 len) := by
  simp [pureOp, omap, hx, aBuiltin, hT, hd]
theorem pv_len_str {t : TypeId} {ti : TyI} {x : Operand} {s : ByteArray} (hT : C.T t = some ti) (hd : ti.desc = .string) (hx : ρ x = some (.str s)) :
    pureOp C ρ (.call ⟨.builtin .len, #[x], #[t]⟩) = some (.int .i64 s.size) := by
  simp [pureOp, omap, hx, aBuiltin, hT, hd]
theorem pv_max {t : Array TypeId} {x y : Operand} {k k' : IntKind} {a b : Int} (hx : ρ x = some (.int k a)) (hy : ρ y = some (.int k' b)) :
    pureOp C ρ (.call ⟨.builtin .max, #[x, y], t⟩) = some (.int k (if b > a then b else a)) := by
  simp [pureOp, omap, hx, hy, aBuiltin, ofoldl, max2A]
/-- the address of an element of frozen memory -/
theorem pv_idx {t e : TypeId} {ti ei : TyI} {x j : Operand} {k : IntKind} {nl : Bool} {len : Nat} {cap : Option Nat} {cs r : List AV} {i : Int} (hT : C.T t = some ti) (hd : ti.desc = .slice e) (hE : C.T e = some ei)
    (hx : ρ x = some (.vec nl len cap cs)) (hj : ρ j = some (.int k i)) (h0 : 0 ≤ i) (h1 : i < len) (hr : cs.drop (i.toNat * ei.size) = r) : pureOp C ρ (.indexAddr t x j) = some (.iptr r) := by
  subst hr
  simp [pureOp, hx, hj, aIndexAddr, hT, hd, hE, h0, h1]
theorem pv_idx_sl {t e : TypeId} {ti ei : TyI} {x j : Operand} {k : IntKind} {β o len es : Nat} {cap : Option Nat} {i : Int} (hT : C.T t = some ti) (hd : ti.desc = .slice e) (hE : C.T e = some ei)
    (hx : ρ x = some (.slice β o len cap es)) (hj : ρ j = some (.int k i)) (h0 : 0 ≤ i) (h1 : i < len) : pureOp C ρ (.indexAddr t x j) = some (.ptr β (o + i.toNat * ei.size)) := by
  simp [pureOp, hx, hj, aIndexAddr, hT, hd, hE, h0, h1]
theorem pv_fld {t : TypeId} {ti fi : TyI} {x : Operand} {i β o : Nat} {fs : Array Field} {f : Field} (hT : C.T t = some ti) (hd : ti.desc = .struct fs) (hf : fs[i]? = some f) (hF : C.T f.type = some fi) (hs : ¬ fi.size = 0)
    (hx : ρ x = some (.ptr β o)) : pureOp C ρ (.fieldAddr t x i) = some (.ptr β (o + f.offset)) := by
  simp [pureOp, hx, aFieldAddr, hT, hd, hf, hF, hs]
theorem pv_fldi {t : TypeId} {ti fi : TyI} {x : Operand} {i : Nat} {cs : List AV} {fs : Array Field} {f : Field} (hT : C.T t = some ti) (hd : ti.desc = .struct fs) (hf : fs[i]? = some f) (hF : C.T f.type = some fi) (hs : ¬ fi.size = 0)
    (hx : ρ x = some (.iptr cs)) : pureOp C ρ (.fieldAddr t x i) = some (.iptr (cs.drop f.offset)) := by
  simp [pureOp, hx, aFieldAddr, hT, hd, hf, hF, hs]
theorem pv_field {t : TypeId} {ti : TyI} {x : Operand} {i : Nat} {cs : List AV} {fs : Array Field} {f : Field} {v : AV} (hT : C.T t = some ti) (hd : ti.desc = .struct fs) (hf : fs[i]? = some f)
    (hx : ρ x = some (.agg cs)) (hp : partA C f.type cs f.offset = some v) : pureOp C ρ (.field t x i) = some v := by
  simp [pureOp, hx, aField, hT, hd, hf, hp]
theorem part_sc {t : TypeId} {ti : TyI} {cs : List AV} {o : Nat} {v : AV} (hT : C.T t = some ti) (ha : ti.isAgg = false) (h : cs[o]? = some v) : partA C t cs o = some v := by
  simp [partA, hT, ha, h]
theorem part_agg {t : TypeId} {ti : TyI} {cs l : List AV} {o : Nat} (hT : C.T t = some ti) (ha : ti.isAgg = true) (h : (cs.drop o).take ti.size = l) (hl : l.length = ti.size) : partA C t cs o = some (.agg l) := by
  subst h; simp only [partA, hT, Option.bind_some, ha, if_true, if_pos hl]
theorem pv_conv {s d : TypeId} {si di : TyI} {x : Operand} {k k' : IntKind} {n : Int} (hS : C.T s = some si) (hD : C.T d = some di) (hd : di.desc = .int k) (hx : ρ x = some (.int k' n)) :
    pureOp C ρ (.convert s d x) = some (.int k (k.wrap n)) := by
  simp [pureOp, hx, aConvert, hS, hD, hd]
/-- loads -/
theorem rv_loadi {t : TypeId} {a : Operand} {cs : List AV} {v : AV} (ha : ρ a = some (.iptr cs)) (h : partA C t cs 0 = some v) : readOp C ρ (.load t a) = some (.imm v) := by
  simp [readOp, ha, h]
theorem rv_load {t : TypeId} {a : Operand} {β o : Nat} (ha : ρ a = some (.ptr β o)) : readOp C ρ (.load t a) = some (.at β fun B => match B with | .cells cs => partA C t cs o | _ => none) := by
  show (ρ a).bind _ = _
  rw [ha]; rfl
/-- new memory -/
theorem nv_alloc {t : TypeId} {ti : TyI} (hT : C.T t = some ti) (hz : ti.zero.all AV.sc = true) : newOp C ρ (.alloc t) = some (.cells ti.zero, fun β => .ptr β 0) := by
  simp only [newOp, hT, Option.bind_some, hz, if_true]
theorem nv_box {t : TypeId} {x : Operand} {cs : List AV} (hx : ρ x = some (.agg cs)) (hz : cs.all AV.sc = true) : newOp C ρ (.box t x) = some (.cells cs, fun β => .ptr β 0) := by
  simp only [newOp, hx, Option.bind_some, aCells, hz, if_true]
theorem nv_make {t e : TypeId} {ti ei : TyI} {l c : Operand} {k k' : IntKind} {n m : Int} (hT : C.T t = some ti) (hd : ti.desc = .slice e) (hE : C.T e = some ei) (hl : ρ l = some (.int k n)) (hc : ρ c = some (.int k' m))
    (h0 : 0 ≤ n) (h1 : n ≤ m) (h2 : m < 2 ^ 62) (h3 : ei.bytes * m ≤ 2 ^ 48) (hz : ei.zero.length = ei.size) (hs : ei.zero.all AV.sc = true) :
    newOp C ρ (.makeSlice t l c) = some (.cells (reps ei.zero m.toNat), fun β => .slice β 0 n.toNat (some m.toNat) ei.size) := by
  simp only [newOp, hl, hc, Option.bind_some, hT, hd, hE]
  rw [if_pos ⟨h0, h1, h2, h3, hz, hs⟩]
theorem nv_bs {t e : TypeId} {ti ei : TyI} {n : Nat} {parts : Array (Nat × Operand)} {ps : List (Nat × AV)} {cs : List AV} (hT : C.T t = some ti) (hd : ti.desc = .slice e) (hE : C.T e = some ei)
    (hl : n * ei.size ≤ 2 ^ 24 ∧ ei.zero.length = ei.size) (hp : (omap (fun p : Nat × Operand => (ρ p.2).map fun v => (p.1, v)) parts.toList) = some ps)
    (hf : afill (fun i => some (i * ei.size, ei.size)) (reps ei.zero n) ps = some cs) (hs : cs.all AV.sc = true) : newOp C ρ (.buildSlice t n parts) = some (.cells cs, fun β => .slice β 0 n (some n) ei.size) := by
  simp only [newOp, hT, Option.bind_some, hd, hE, hp, if_pos hl, hf, if_pos hs]
/-- stores -/
theorem ev_store {t : TypeId} {ti : TyI} {a x : Operand} {β o : Nat} {v : AV} {cs : List AV} (hT : C.T t = some ti) (ha : ρ a = some (.ptr β o)) (hx : ρ x = some v) (hn : ∀ vs, v ≠ .tuple vs) (hg : A.get β = some (.cells cs))
    (h1 : (aCells v).length = ti.size) (h2 : o + (aCells v).length ≤ cs.length) (h3 : (aCells v).all AV.sc = true) : effOp C ρ (.store t a x) A = some (.tuple [], A.put β (.cells (setRange cs o (aCells v)))) := by
  cases v <;> first | exact absurd rfl (hn _) | simp only [effOp, ha, hx, Option.bind_some, hT, hg, if_pos (show _ ∧ _ ∧ _ from ⟨h1, h2, h3⟩)]
end
end Go.Am
namespace Go.Am
open Go
/-- the arguments are lent -/
theorem PureR.lend {C : Cx} (hP : C.Plain) {f : FuncId} {us args : List AV} {R : AV → Prop} {A : AH} (h : PureR C f us R) {k : Nat} (hf : omap (freeze k A) args = some us) (hr : ∀ r, R r → flat r = true) :
    ACall C f args A fun r A' => A' = A ∧ R r := by
  refine ⟨(h A).1, fun φ w vs hA hG hv => ?_⟩
  let φ₀ : Env := ⟨fun _ => .unborn, fun b => φ.priv b⟩
  have hLv : ∀ b, ¬ Lv φ₀ b := fun b ⟨β, δ, e⟩ => by cases e
  have hIm : ∀ b, Im φ₀ b → Im φ b ∧ ¬ Lv φ b := fun b x => x.elim (fun y => (hLv b y).elim) (fun y => ⟨.inr y, hA.dis _ y⟩)
  have hless : Less φ φ₀ (fun _ => True) := ⟨fun β hn => (hn trivial).elim, fun b x => (hIm b x).1⟩
  have hA₀ : HRel φ₀ AH.empty w := ⟨fun β => by constructor <;> intro _ <;> rfl, fun _ _ => rfl, fun β B hB => (by cases hB), fun β b δ e => (by cases e), fun β γ b δ δ' e => (by cases e), fun b x => hA.prv b x, fun b _ => hLv b⟩
  have hG₀ : GRel C φ₀ w := fun g cs hg => by
    exact CRel.less hless g 0 cs (fun i _ => noBlks_ment i cs (hP g cs hg)) (hG g cs hg)
  refine ((h AH.empty).2 φ₀ w vs hA₀ hG₀ (freezes_rels (fun v u y => freeze_sound hA hIm v u y) hf hv)).mono fun e w' ⟨y, φ', r', A₁, he, h1, h2, h3, hA1, hR⟩ => ?_
  have hE : Ext φ w φ w' := ⟨fun _ _ => .inl rfl, fun b hb _ => h3.keep b hb (hLv b), fun _ x => .inl x, h3.shape, h3.size, rfl, h3.os, h3.tape, h3.output⟩
  refine ⟨y, φ, r', A, he, flat_rel _ _ (hr _ hR) h1, ⟨hA.born, hA.fresh, fun β B hB => ?_, hA.live, hA.inj, fun b hb => Nat.lt_of_lt_of_le (hA.prv b hb) h3.size, hA.dis⟩, hE, rfl, hR⟩
  obtain ⟨b, δ, e, x⟩ := hA.blk β B hB
  exact ⟨b, δ, e, x.ext hE (h3.keep b x.lt (hLv b))⟩

/-! ## lists of cells -/
section
variable {α : Type} {f : α → List AV} {es : Nat}
theorem drop_enc (hf : ∀ a, (f a).length = es) : ∀ {l : List α} {k : Nat} {a : α}, l[k]? = some a → (l.flatMap f).drop (k * es) = f a ++ (l.drop (k + 1)).flatMap f
  | [], k, a, h => by simp at h
  | b :: l, 0, a, h => by simp at h; subst h; simp
  | b :: l, k + 1, a, h => by
    have ih := drop_enc hf (l := l) (k := k) (a := a) (by simpa using h)
    rw [List.flatMap_cons, show (k + 1) * es = (f b).length + k * es by rw [hf, Nat.add_mul, Nat.one_mul, Nat.add_comm], List.drop_append, List.drop_eq_nil_of_le (by omega)]
    simp only [List.nil_append, Nat.add_sub_cancel_left, ih, List.drop_succ_cons]
theorem drop_encI (hf : ∀ a, (f a).length = es) {l : List α} {i : Int} {k : Nat} {a : α} (hi : i = k) (h : l[k]? = some a) : (l.flatMap f).drop (i.toNat * es) = f a ++ (l.drop (k + 1)).flatMap f := by
  subst hi; exact drop_enc hf h
theorem drop_map {g : α → AV} {l : List α} {i : Int} {k : Nat} {a : α} (hi : i = k) (h : l[k]? = some a) : (l.map g).drop (i.toNat * 1) = g a :: (l.drop (k + 1)).map g := by
  have := drop_encI (f := fun a => [g a]) (es := 1) (fun _ => rfl) hi h
  have e : ∀ l : List α, l.flatMap (fun a => [g a]) = l.map g := fun l => by
    induction l with
    | nil => rfl
    | cons b l ih => simp [ih]
  rw [e, e] at this
  exact this
theorem get_some {l : List α} {k : Nat} (h : k < l.length) : ∃ a, l[k]? = some a := ⟨l[k], List.getElem?_eq_getElem h⟩
end
theorem noBlks_append : ∀ (a b : List AV), noBlks (a ++ b) = (noBlks a && noBlks b)
  | [], b => by simp [noBlks]
  | x :: a, b => by simp [noBlks, noBlks_append a b, Bool.and_assoc]
theorem noBlks_map {α : Type} {f : α → AV} (h : ∀ a, noBlk (f a) = true) : ∀ l : List α, noBlks (l.map f) = true
  | [] => rfl
  | a :: l => by simp [noBlks, h, noBlks_map h l]
theorem noBlks_flat {α : Type} {f : α → List AV} (h : ∀ a, noBlks (f a) = true) : ∀ l : List α, noBlks (l.flatMap f) = true
  | [] => rfl
  | a :: l => by simp [noBlks_append, h, noBlks_flat h l]
theorem noBlks_ints (k : IntKind) (l : List Int) : noBlks (l.map (.int k)) = true := noBlks_map (fun _ => rfl) l
theorem AH.get_alloc_self (A : AH) (B : ABlk) : (A.alloc B).get A.next = some B := by rw [AH.get_alloc, if_pos rfl]
theorem AH.get_put_self (A : AH) (β : Nat) (B : ABlk) : (A.put β B).get β = some B := by rw [AH.get_put, if_pos rfl]
noncomputable def tb (P : Prop) : Bool := @decide P (Classical.propDecidable P)
theorem tb_true {P : Prop} (h : P) : tb P = true := by unfold tb; exact @decide_eq_true P (Classical.propDecidable P) h
theorem tb_false {P : Prop} (h : ¬ P) : tb P = false := by unfold tb; exact @decide_eq_false P (Classical.propDecidable P) h
theorem tb_iff {P : Prop} : tb P = true ↔ P := by unfold tb; exact @decide_eq_true_iff P (Classical.propDecidable P)
end Go.Am

namespace Go.Am
open Go
theorem AH.next_alloc (A : AH) (B : ABlk) : (A.alloc B).next = A.next + 1 := rfl
theorem AH.next_put (A : AH) (β : Nat) (B : ABlk) : (A.put β B).next = A.next := rfl
theorem AH.next_kill (A : AH) (β : Nat) : (A.kill β).next = A.next := rfl
theorem AH.keep_alloc {A : AH} {B X : ABlk} {β : Nat} (h : β < A.next) (hg : A.get β = some X) : (A.alloc B).get β = some X := by rw [AH.get_alloc, if_neg (by omega)]; exact hg
theorem AH.keep_put {A : AH} {B X : ABlk} {β γ : Nat} (h : β ≠ γ) (hg : A.get β = some X) : (A.put γ B).get β = some X := by rw [AH.get_put, if_neg h]; exact hg
theorem AH.keep_kill {A : AH} {X : ABlk} {β γ : Nat} (h : β ≠ γ) (hg : A.get β = some X) : (A.kill γ).get β = some X := by rw [AH.get_kill, if_neg h]; exact hg
/-- A' is A but for block β -/
def Chg (A A' : AH) (β : Nat) : Prop := ∀ γ X, γ ≠ β → A.get γ = some X → A'.get γ = some X
/-- A' is A with more blocks -/
def Grw (A A' : AH) : Prop := ∀ γ X, γ < A.next → A.get γ = some X → A'.get γ = some X
section
variable {C : Cx} {A : AH} {fr : Fr} {ops : Array Oper} {K : Fr → AH → Prop} {o : Oper} {rest : List Oper}
theorem s_newG {B : ABlk} {mk : Nat → AV} (hf : fr.fits o.dst = true) (hw : wantedA ops fr o = some true) (h : newOp C (evalO C fr) o.op = some (B, mk))
    (k : ∀ A' : AH, A'.next = A.next + 1 → A'.get A.next = some B → Grw A A' → seqWp C ops K rest (fr.put o.dst (mk A.next)) A') : seqWp C ops K (o :: rest) fr A :=
  s_new hf hw h (k _ rfl (AH.get_alloc_self _ _) fun _ _ hl hg => AH.keep_alloc hl hg)
theorem s_putG {v : AV} {β : Nat} {B : ABlk} (hf : fr.fits o.dst = true) (hw : wantedA ops fr o = some true) (h : effOp C (evalO C fr) o.op A = some (v, A.put β B))
    (k : ∀ A' : AH, A'.next = A.next → A'.get β = some B → Chg A A' β → seqWp C ops K rest (fr.put o.dst v) A') : seqWp C ops K (o :: rest) fr A :=
  s_eff hf hw h (k _ rfl (AH.get_put_self _ _ _) fun _ _ hl hg => AH.keep_put hl hg)
end
section
variable {C : Cx} {A : AH} {fr : Fr} {ops : Array Oper} {ms : List Nat} {K : Fr → AH → Prop} {o : Oper} {i : Nat} {rest : List Nat} {hid : List (Nat × Nat × ABlk)} {J : List Nat}
theorem q_putG {v : AV} {β : Nat} {B : ABlk} (ho : ops[i]? = some o) (hf : fr.fits o.dst = true) (hw : wantedA ops fr o = some true) (he : isE o = true)
    (hH : (hid.all fun h => (ms.getD i 0).testBit h.1) = true) (hJ : (J.all fun j => (ms.getD i 0).testBit j) = true)
    (h : effOp C (evalR C fr (opTmps o)) o.op (promo hid A) = some (v, (promo hid A).put β B))
    (k : ∀ A' : AH, A'.next = (promo hid A).next → A'.get β = some B → Chg (promo hid A) A' β → qWp C ops ms K rest (fr.put o.dst v) A' [] []) : qWp C ops ms K (i :: rest) fr A hid J :=
  q_eff ho hf hw he hH hJ h (k _ rfl (AH.get_put_self _ _ _) fun _ _ hl hg => AH.keep_put hl hg)
end
end Go.Am

namespace Go.Am
theorem bool_split {r : AV} {b : Bool} (h : r = .bool b) : (r = .bool true ∧ b = true) ∨ (r = .bool false ∧ b = false) := by cases b; exact .inr ⟨h, rfl⟩; exact .inl ⟨h, rfl⟩
end Go.Am

namespace Go.Am
open Go
section
variable {C : Cx} {A : AH} {fr : Fr} {ops : Array Oper} {ms : List Nat} {K : Fr → AH → Prop} {o : Oper} {i : Nat} {rest : List Nat} {J : List Nat}
/-- where nothing is hidden -/
theorem q_nil0 (h : K fr A) : qWp C ops ms K [] fr A [] J := q_nil h
theorem q_eff0 {v : AV} {A' : AH} (ho : ops[i]? = some o) (hf : fr.fits o.dst = true) (hw : wantedA ops fr o = some true) (he : isE o = true) (hJ : (J.all fun j => (ms.getD i 0).testBit j) = true)
    (h : effOp C (evalR C fr (opTmps o)) o.op A = some (v, A')) (k : qWp C ops ms K rest (fr.put o.dst v) A' [] []) : qWp C ops ms K (i :: rest) fr A [] J :=
  q_eff ho hf hw he rfl hJ h k
theorem q_putG0 {v : AV} {β : Nat} {B : ABlk} (ho : ops[i]? = some o) (hf : fr.fits o.dst = true) (hw : wantedA ops fr o = some true) (he : isE o = true) (hJ : (J.all fun j => (ms.getD i 0).testBit j) = true)
    (h : effOp C (evalR C fr (opTmps o)) o.op A = some (v, A.put β B))
    (k : ∀ A' : AH, A'.next = A.next → A'.get β = some B → Chg A A' β → qWp C ops ms K rest (fr.put o.dst v) A' [] []) : qWp C ops ms K (i :: rest) fr A [] J :=
  q_eff0 ho hf hw he hJ h (k _ rfl (AH.get_put_self _ _ _) fun _ _ hl hg => AH.keep_put hl hg)
theorem q_call0 {f : FuncId} {args : List AV} {R : AV → AH → Prop} (ho : ops[i]? = some o) (hf : fr.fits o.dst = true) (hw : wantedA ops fr o = some true) (he : isE o = true) (hJ : (J.all fun j => (ms.getD i 0).testBit j) = true)
    (h : callA (evalR C fr (opTmps o)) o.op = some (f, args)) (hc : ACall C f args A R) (k : ∀ r A', R r A' → qWp C ops ms K rest (fr.put o.dst r) A' [] []) : qWp C ops ms K (i :: rest) fr A [] J :=
  q_call ho hf hw he rfl hJ h hc k
end
end Go.Am

namespace Go.Am
open Go
def kmax : IntKind → Int
  | .i8 => 127 | .i16 => 32767 | .i32 => 2147483647 | .i64 => 9223372036854775807
  | .u8 => 255 | .u16 => 65535 | .u32 => 4294967295 | .u64 => 18446744073709551615
theorem wrap_in {k : IntKind} {n M : Int} (hM : kmax k = M) (h0 : 0 ≤ n) (h1 : n ≤ M) : k.wrap n = n := by
  subst hM
  cases k <;> simp only [kmax] at h1
  · exact IntWalk.i8_in n ⟨by omega, h1⟩
  · exact IntWalk.i16_in n ⟨by omega, h1⟩
  · exact IntWalk.i32_in n ⟨by omega, h1⟩
  · exact IntWalk.i64_in n ⟨by omega, h1⟩
  · exact IntWalk.u8_in n ⟨h0, h1⟩
  · exact IntWalk.u16_in n ⟨h0, h1⟩
  · exact IntWalk.u32_in n ⟨h0, h1⟩
  · exact IntWalk.u64_in n ⟨h0, h1⟩
section
variable {C : Cx} {ρ : Operand → Option AV} {A : AH}
theorem pv_addk {t t' : TypeId} {x y : Operand} {k : IntKind} {a b M : Int} (hM : kmax k = M) (hx : ρ x = some (.int k a)) (hy : ρ y = some (.int k b)) (h0 : 0 ≤ a + b) (h1 : a + b ≤ M) :
    pureOp C ρ (.binOp .add t x y t') = some (.int k (a + b)) := pv_int hx hy (by simp only [aInt, wrap_in hM h0 h1])
theorem pv_subk {t t' : TypeId} {x y : Operand} {k : IntKind} {a b M : Int} (hM : kmax k = M) (hx : ρ x = some (.int k a)) (hy : ρ y = some (.int k b)) (h0 : 0 ≤ a - b) (h1 : a - b ≤ M) :
    pureOp C ρ (.binOp .sub t x y t') = some (.int k (a - b)) := pv_int hx hy (by simp only [aInt, wrap_in hM h0 h1])
theorem pv_mulk {t t' : TypeId} {x y : Operand} {k : IntKind} {a b M : Int} (hM : kmax k = M) (hx : ρ x = some (.int k a)) (hy : ρ y = some (.int k b)) (h0 : 0 ≤ a * b) (h1 : a * b ≤ M) :
    pureOp C ρ (.binOp .mul t x y t') = some (.int k (a * b)) := pv_int hx hy (by simp only [aInt, wrap_in hM h0 h1])
theorem pv_quok {t t' : TypeId} {x y : Operand} {k : IntKind} {a b M : Int} (hM : kmax k = M) (hx : ρ x = some (.int k a)) (hy : ρ y = some (.int k b)) (h0 : 0 ≤ a) (h1 : a ≤ M) (hb : 1 ≤ b) :
    pureOp C ρ (.binOp .quo t x y t') = some (.int k (a / b)) := by
  refine pv_int hx hy ?_
  have e : a.tdiv b = a / b := Int.tdiv_eq_ediv_of_nonneg h0
  have l1 : 0 ≤ a / b := Int.ediv_nonneg h0 (by omega)
  have l2 : a / b ≤ a := Int.ediv_le_self b h0
  simp only [aInt, if_neg (show ¬ b = 0 by omega), e, wrap_in hM l1 (by omega)]
/-- a conversion that loses nothing -/
theorem pv_convk {s d : TypeId} {si di : TyI} {x : Operand} {k k' : IntKind} {n M : Int} (hS : C.T s = some si) (hD : C.T d = some di) (hd : di.desc = .int k) (hM : kmax k = M) (hx : ρ x = some (.int k' n)) (h0 : 0 ≤ n) (h1 : n ≤ M) :
    pureOp C ρ (.convert s d x) = some (.int k n) := by
  rw [pv_conv hS hD hd hx, wrap_in hM h0 h1]
theorem pv_conv32 {s d : TypeId} {si di : TyI} {x : Operand} {k' : IntKind} {n : Int} (hS : C.T s = some si) (hD : C.T d = some di) (hd : di.desc = .int .u32) (hx : ρ x = some (.int k' n)) :
    pureOp C ρ (.convert s d x) = some (.int .u32 (n % 4294967296)) := by
  rw [pv_conv hS hD hd hx, show IntKind.u32.wrap n = n % 4294967296 by simp [IntKind.wrap, IntKind.bits, IntKind.signed]]
theorem pv_shr {t t' : TypeId} {x y : Operand} {k k' : IntKind} {a b d : Int} (hx : ρ x = some (.int k a)) (hy : ρ y = some (.int k' b)) (hb : 0 ≤ b) (h0 : 0 ≤ a) (hd : (2 : Int) ^ min b.toNat k.bits = d) :
    pureOp C ρ (.binOp .shr t x y t') = some (.int k (a / d)) := by
  refine pv_bin hx hy ?_
  subst hd
  simp only [aBin, if_pos (Or.inr rfl), aShift, if_neg (show ¬ b < 0 by omega)]
  rw [Int.fdiv_eq_ediv_of_nonneg _ (Int.pow_nonneg (by omega)), if_pos (.inr trivial)]
theorem aEq_bool {d : Nat} {t : TypeId} {ti : TyI} {a b : Bool} (hT : C.T t = some ti) (hd : ti.desc = .bool) : aEqual C (d + 1) t (.bool a) (.bool b) = some (a == b) := by
  rw [aEqual, hT, Option.bind_some, hd]
theorem aEq_nil {d : Nat} {t e : TypeId} {ti : TyI} {nl : Bool} {len : Nat} {cap cap' : Option Nat} {cs : List AV} (hT : C.T t = some ti) (hd : ti.desc = .slice e) : aEqual C (d + 1) t (.vec nl len cap cs) (.vec true 0 cap' []) = some nl := by
  rw [aEqual, hT, Option.bind_some, hd]
  cases nl <;> rfl
theorem pv_eqb {t t' : TypeId} {ti : TyI} {x y : Operand} {a b : Bool} (hT : C.T t = some ti) (hd : ti.desc = .bool) (hx : ρ x = some (.bool a)) (hy : ρ y = some (.bool b)) :
    pureOp C ρ (.binOp .eql t x y t') = some (.bool (a == b)) := by
  refine pv_bin hx hy ?_
  show (aEqual C (9999 + 1) t (.bool a) (.bool b)).map AV.bool = _
  rw [aEq_bool hT hd]; rfl
theorem pv_neb {t t' : TypeId} {ti : TyI} {x y : Operand} {a b : Bool} (hT : C.T t = some ti) (hd : ti.desc = .bool) (hx : ρ x = some (.bool a)) (hy : ρ y = some (.bool b)) :
    pureOp C ρ (.binOp .neq t x y t') = some (.bool !(a == b)) := by
  refine pv_bin hx hy ?_
  show (aEqual C (9999 + 1) t (.bool a) (.bool b)).map (fun b => AV.bool !b) = _
  rw [aEq_bool hT hd]; rfl
theorem not_beq_iff {a b : Bool} : (!(a == b)) = true ↔ a ≠ b := by cases a <;> cases b <;> decide
theorem pv_maxN {t : Array TypeId} {x y : Operand} {k k' : IntKind} {a b : Nat} (hx : ρ x = some (.int k (a : Int))) (hy : ρ y = some (.int k' (b : Int))) :
    pureOp C ρ (.call ⟨.builtin .max, #[x, y], t⟩) = some (.int k ((max a b : Nat) : Int)) := by
  rw [pv_max hx hy]
  congr 2
  split <;> omega
/-- a slice against nil -/
theorem pv_nil {t t' e : TypeId} {ti : TyI} {x y : Operand} {nl : Bool} {len : Nat} {cap cap' : Option Nat} {cs : List AV} (hT : C.T t = some ti) (hd : ti.desc = .slice e) (hx : ρ x = some (.vec nl len cap cs)) (hy : ρ y = some (.vec true 0 cap' [])) :
    pureOp C ρ (.binOp .eql t x y t') = some (.bool nl) := by
  refine pv_bin hx hy ?_
  show (aEqual C (9999 + 1) t (.vec nl len cap cs) (.vec true 0 cap' [])).map AV.bool = _
  rw [aEq_nil hT hd]; rfl
/-- the first elements of a slice -/
def CapOk (n : Nat) (cap : Option Nat) : Prop := n ≤ cap.getD n
theorem pv_take {t e : TypeId} {ti ei : TyI} {x h : Operand} {k : IntKind} {nl : Bool} {len : Nat} {cap : Option Nat} {cs : List AV} {i : Int} (hT : C.T t = some ti) (hd : ti.desc = .slice e) (hE : C.T e = some ei)
    (hx : ρ x = some (.vec nl len cap cs)) (hh : ρ h = some (.int k i)) (h0 : 0 ≤ i) (h1 : i ≤ len) (hc : CapOk len cap) :
    pureOp C ρ (.slice t x none (some h) none) = some (.vec nl i.toNat cap (cs.take (i.toNat * ei.size))) := by
  have h2 : i ≤ ((cap.getD len : Nat) : Int) := by unfold CapOk at hc; omega
  have h3 : i.toNat ≤ len := by omega
  simp only [pureOp, hx, Option.bind_some, aSliceOp, hT, hd, hE, Option.map_none, Option.map_some, hh, aBounds, bound1, if_pos (And.intro h0 h2), if_pos h3, Nat.sub_zero, Nat.zero_mul, List.drop_zero]
  cases cap <;> rfl
theorem pv_take3 {t e : TypeId} {ti ei : TyI} {x h m : Operand} {k k' : IntKind} {nl : Bool} {len : Nat} {cap : Option Nat} {cs : List AV} {i j : Int} (hT : C.T t = some ti) (hd : ti.desc = .slice e) (hE : C.T e = some ei)
    (hx : ρ x = some (.vec nl len cap cs)) (hh : ρ h = some (.int k i)) (hm : ρ m = some (.int k' j)) (h0 : 0 ≤ i) (h1 : i ≤ len) (hij : i = j) (hc : CapOk len cap) :
    pureOp C ρ (.slice t x none (some h) (some m)) = some (.vec nl i.toNat (some i.toNat) (cs.take (i.toNat * ei.size))) := by
  subst hij
  have h2 : i ≤ ((cap.getD len : Nat) : Int) := by unfold CapOk at hc; omega
  have h3 : i.toNat ≤ len := by omega
  have h4 : i ≤ ((i.toNat : Nat) : Int) := by omega
  simp only [pureOp, hx, Option.bind_some, aSliceOp, hT, hd, hE, Option.map_none, Option.map_some, hh, hm, aBounds, bound1, if_pos (And.intro h0 h2), if_pos (And.intro h0 h4), if_pos h3, Nat.sub_zero, Nat.zero_mul, List.drop_zero]
theorem reps_one (z : AV) : ∀ n, reps [z] n = List.replicate n z
  | 0 => rfl
  | n + 1 => by simp [reps, reps_one z n, List.replicate_succ]
theorem setRange_one (v : AV) : ∀ (cs : List AV) (i : Nat), i < cs.length → setRange cs i [v] = cs.set i v
  | [], i, h => by simp at h
  | c :: cs, 0, h => by simp [setRange]
  | c :: cs, i + 1, h => by
    have := setRange_one v cs i (by simpa using h)
    simp only [setRange, List.length_cons, List.length_nil] at this ⊢
    simp only [List.take_succ_cons, List.cons_append, List.set_cons_succ]
    rw [← this]
    simp [Nat.add_right_comm]
/-- append of one value to a slice of values of one cell -/
theorem ev_app1 {t e : TypeId} {ti ei : TyI} {s x : Operand} {v : AV} {β γ o len : Nat} {cs : List AV} (hT : C.T t = some ti) (hd : ti.desc = .slice e) (hE : C.T e = some ei)
    (hs : ρ s = some (.slice β o len none 1)) (hx : ρ x = some (.slice γ 0 1 (some 1) 1)) (hg : A.get γ = some (.cells [v])) (hb : A.get β = some (.cells cs)) (ho : o = 0) (hl : cs.length = len) (hsz : ei.size = 1) (hz : ei.zero.length = 1)
    (hv : v.sc = true) (hc : cs.all AV.sc = true) (h48 : (2 * (len + 1) + 192) * ei.bytes ≤ 2 ^ 48) (hlt : len + 1 < 2 ^ 48) :
    effOp C ρ (.call ⟨.builtin .append, #[s, x], #[t, t]⟩) A = some (.slice A.next 0 (len + 1) none 1, (A.kill β).alloc (.cells (cs ++ [v]))) := by
  subst ho hl
  have e1 : omap ρ [s, x] = some [.slice β 0 cs.length none 1, .slice γ 0 1 (some 1) 1] := by simp [omap, hs, hx]
  have e2 : srcA A ei.size (.slice γ 0 1 (some 1) 1) = some ([v], 1) := by simp [srcA, hg, hsz]
  simp only [effOp, e1, Option.bind_some, aAppend, List.getElem?_toArray, List.getElem?_cons_zero, List.getElem?_cons_succ, hT, hd, hE, e2]
  simp [isIntD, hv, hz, hsz, aAppendTo, h48, hlt, hb, hc]
/-- append of one value to nil -/
theorem ev_app0 {t e : TypeId} {ti ei : TyI} {s x : Operand} {v : AV} {γ : Nat} {nl : Bool} (hT : C.T t = some ti) (hd : ti.desc = .slice e) (hE : C.T e = some ei)
    (hs : ρ s = some (.vec nl 0 (some 0) [])) (hx : ρ x = some (.slice γ 0 1 (some 1) 1)) (hg : A.get γ = some (.cells [v])) (hsz : ei.size = 1) (hz : ei.zero.length = 1)
    (hv : v.sc = true) (h48 : 194 * ei.bytes ≤ 2 ^ 48) :
    effOp C ρ (.call ⟨.builtin .append, #[s, x], #[t, t]⟩) A = some (.slice A.next 0 1 none 1, A.alloc (.cells [v])) := by
  have e1 : omap ρ [s, x] = some [.vec nl 0 (some 0) [], .slice γ 0 1 (some 1) 1] := by simp [omap, hs, hx]
  have e2 : srcA A ei.size (.slice γ 0 1 (some 1) 1) = some ([v], 1) := by simp [srcA, hg, hsz]
  simp only [effOp, e1, Option.bind_some, aAppend, List.getElem?_toArray, List.getElem?_cons_zero, List.getElem?_cons_succ, hT, hd, hE, e2]
  simp [isIntD, hv, hz, hsz, aAppendTo, h48]
end
end Go.Am

namespace Go.Am
open Go

/-- what lies below lo stays -/
def Keep (lo : Nat) (A A' : AH) : Prop := ∀ γ X, γ < lo → A.get γ = some X → A'.get γ = some X
theorem Keep.refl (lo : Nat) (A : AH) : Keep lo A A := fun _ _ _ h => h
theorem Keep.trans {lo : Nat} {A B D : AH} (h : Keep lo A B) (k : Keep lo B D) : Keep lo A D := fun γ X hl hg => k γ X hl (h γ X hl hg)
/-- a slice of the walk's own, or nil: n elements of es cells each; its block lies from lo on, below hi -/
inductive Own (es lo hi : Nat) (A : AH) : AV → Nat → List AV → Prop
  | nil {nl : Bool} : lo ≤ hi → hi ≤ A.next → Own es lo hi A (.vec nl 0 (some 0) []) 0 []
  | sl {β n : Nat} {L : List AV} : A.get β = some (.cells L) → lo ≤ β → β < hi → hi ≤ A.next → L.length = n * es → L.all AV.sc = true → Own es lo hi A (.slice β 0 n none es) n L
section
variable {es lo hi n : Nat} {A A' : AH} {v : AV} {L : List AV}
theorem Own.len (h : Own es lo hi A v n L) : L.length = n * es := by
  cases h with
  | nil _ _ => simp
  | sl _ _ _ _ h _ => exact h
theorem Own.next (h : Own es lo hi A v n L) : lo ≤ hi ∧ hi ≤ A.next := by
  cases h with
  | nil h k => exact ⟨h, k⟩
  | sl _ h1 h2 h3 _ _ => omega
theorem Own.sc (h : Own es lo hi A v n L) : L.all AV.sc = true := by
  cases h with
  | nil _ _ => rfl
  | sl _ _ _ _ _ h => exact h
theorem Own.aCells (h : Own es lo hi A v n L) : Am.aCells v = [v] := by cases h <;> rfl
theorem Own.ntup (h : Own es lo hi A v n L) : ∀ vs, v ≠ .tuple vs := by cases h <;> (intro vs e; cases e)
theorem Own.vsc (h : Own es lo hi A v n L) : v.sc = true := by cases h <;> rfl
/-- memory grows, and the block stays -/
theorem Own.grow (h : Own es lo hi A v n L) (hg : Grw A A') (hn : A.next ≤ A'.next) : Own es lo hi A' v n L := by
  cases h with
  | nil h k => exact .nil h (by omega)
  | sl h1 h2 h3 h4 h5 h6 => exact .sl (hg _ _ (by omega) h1) h2 h3 (by omega) h5 h6
theorem Own.chg {β : Nat} (h : Own es lo hi A v n L) (hg : Chg A A' β) (hn : A'.next = A.next) (hb : β < lo ∨ hi ≤ β) : Own es lo hi A' v n L := by
  cases h with
  | nil h k => exact .nil h (by omega)
  | sl h1 h2 h3 h4 h5 h6 => exact .sl (hg _ _ (by omega) h1) h2 h3 (by omega) h5 h6
theorem Own.up {hi' : Nat} (h : Own es lo hi A v n L) (h1 : hi ≤ hi') (h2 : hi' ≤ A.next) : Own es lo hi' A v n L := by
  cases h with
  | nil h k => exact .nil (by omega) h2
  | sl h1 h2 h3 h4 h5 h6 => exact .sl h1 h2 (by omega) (by omega) h5 h6
end
section
variable {C : Cx} {ρ : Operand → Option AV} {A : AH}
theorem ev_app {t e : TypeId} {ti ei : TyI} {s x : Operand} {v : AV} {γ es lo hi n : Nat} {L xs : List AV} (hT : C.T t = some ti) (hd : ti.desc = .slice e) (hE : C.T e = some ei) (hO : Own es lo hi A v n L)
    (hs : ρ s = some v) (hx : ρ x = some (.slice γ 0 1 (some 1) es)) (hg : A.get γ = some (.cells xs)) (hxl : xs.length = es) (hsz : ei.size = es) (hz : ei.zero.length = ei.size) (hxs : xs.all AV.sc = true)
    (h48 : (2 * (n + 1) + 192) * ei.bytes ≤ 2 ^ 48) (hlt : n + 1 < 2 ^ 48) :
    ∃ v' A', effOp C ρ (.call ⟨.builtin .append, #[s, x], #[t, t]⟩) A = some (v', A') ∧ Own es lo A'.next A' v' (n + 1) (L ++ xs) ∧ Keep lo A A' ∧ A'.next = A.next + 1 := by
  have e1 : omap ρ [s, x] = some [v, .slice γ 0 1 (some 1) es] := by simp [omap, hs, hx]
  have e2 : srcA A ei.size (.slice γ 0 1 (some 1) es) = some (xs, 1) := by
    have e : (xs.drop 0).take (1 * ei.size) = xs := by rw [List.drop_zero, Nat.one_mul, hsz, ← hxl, List.take_length]
    simp only [srcA, hg]
    rw [if_neg (by decide), e, if_pos (by omega)]
  have e3 : effOp C ρ (.call ⟨.builtin .append, #[s, x], #[t, t]⟩) A = aAppendTo A ei.size ei.bytes v xs 1 := by
    simp only [effOp, e1, Option.bind_some, aAppend, List.getElem?_toArray, List.getElem?_cons_zero, List.getElem?_cons_succ, hT, hd, hE, e2]
    simp [isIntD, hz, hxs]
  rw [e3]
  cases hO with
  | nil hl hh =>
    refine ⟨.slice A.next 0 1 none es, A.alloc (.cells xs), ?_, .sl (AH.get_alloc_self _ _) (by omega) (by simp [AH.next_alloc]) (Nat.le_refl _) (by simpa using hxl) (by simpa using hxs), fun γ X hl' hg' => AH.keep_alloc (by omega) hg', rfl⟩
    simp only [aAppendTo]
    rw [if_pos ⟨h48, hlt, by omega, by simp, rfl⟩, hsz]
    simp
  | sl hb hlo hn hh hlen hsc =>
    rename_i β
    refine ⟨.slice A.next 0 (n + 1) none es, (A.kill β).alloc (.cells (L ++ xs)), ?_, .sl (AH.get_alloc_self _ _) (by show lo ≤ A.next; omega) (by simp [AH.next_alloc, AH.next_kill]) (Nat.le_refl _) (by simp [hlen, hxl, Nat.add_mul]) (by simp only [List.all_append, hsc, hxs, Bool.and_self]),
      fun γ' X hl' hg' => AH.keep_alloc (by simp [AH.next_kill]; omega) (AH.keep_kill (by omega) hg'), rfl⟩
    simp only [aAppendTo]
    rw [if_pos ⟨h48, hlt, hsz.symm⟩, hb]
    simp only
    rw [if_pos (by simp [hsz, hlen])]
    have e4 : List.take (n * ei.size) (List.drop 0 L) = L := by rw [List.drop_zero, hsz, ← hlen, List.take_length]
    rw [e4, if_pos hsc]
end
section
variable {C : Cx} {A : AH} {fr : Fr} {ops : Array Oper} {K : Fr → AH → Prop} {o : Oper} {rest : List Oper}
theorem s_app {es lo n : Nat} {L : List AV} (hf : fr.fits o.dst = true) (hw : wantedA ops fr o = some true)
    (h : ∃ v' A', effOp C (evalO C fr) o.op A = some (v', A') ∧ Own es lo A'.next A' v' n L ∧ Keep lo A A' ∧ A'.next = A.next + 1)
    (k : ∀ v' A', Own es lo A'.next A' v' n L → Keep lo A A' → A'.next = A.next + 1 → seqWp C ops K rest (fr.put o.dst v') A') : seqWp C ops K (o :: rest) fr A := by
  obtain ⟨v', A', h1, h2, h3, h4⟩ := h
  exact s_eff hf hw h1 (k v' A' h2 h3 h4)
end

/-! ## a slice of the walk's own is frozen -/
theorem crel_of_cells {φ' : Env} {w : World} {b : Nat} (hn : ¬ Im φ' b) : ∀ {l : List AV} {o : Nat}, (∀ i v, l[i]? = some v → ∃ y, w.cell? ⟨b, o + i, none⟩ = some y ∧ v.sc = true ∧ VRel φ' w v y) → CRel φ' w b o l
  | [], o, r => trivial
  | c :: l, o, r => by
    obtain ⟨y, e, s, a⟩ := r 0 c rfl
    refine ⟨y, e, hn, s, a, crel_of_cells hn fun i v hv => ?_⟩
    obtain ⟨y, e, s, a⟩ := r (i + 1) v (by simpa using hv)
    exact ⟨y, by rw [show o + 1 + i = o + (i + 1) by omega]; exact e, s, a⟩
def FrHasF (fr : Fr) (v u : AV) : List (Nat × AV) → Prop
  | [] => True
  | p :: l => (fr.get p.1 = some p.2 ∨ (fr.get p.1 = some v ∧ p.2 = u)) ∧ FrHasF fr v u l
theorem frL_getF {n : Nat} {v u : AV} : ∀ {l : List (Nat × AV)} {fr : Fr} {i : Nat} {x : AV}, FrHasF fr v u l → (frL n l).get i = some x → fr.get i = some x ∨ (fr.get i = some v ∧ x = u)
  | [], fr, i, x, _, h => by simp [frL, Fr.get, Trie.get_nil] at h
  | p :: l, fr, i, x, ⟨h1, h2⟩, h => by
    rw [frL, Fr.get_put] at h
    split at h
    · rename_i e; cases e; cases h; exact h1
    · exact frL_getF h2 h
theorem AWp.freeze {C : Cx} {c : Code} {fr : Fr} {A : AH} {Q : Go.Exit → Fr → AH → Prop} {es lo hi n m : Nat} {v : AV} {L : List AV} {l : Bool → Option Nat → List (Nat × AV)} (hO : Own es lo hi A v n L) (hm : m = fr.n)
    (hl : ∀ nl cap, FrHasF fr v (.vec nl n cap L) (l nl cap))
    (k : ∀ nl cap A', (nl = true → n = 0) → CapOk n cap → Keep lo A A' → A'.next = A.next → AWp C c (frL m (l nl cap)) A' Q) : AWp C c fr A Q := by
  cases hO with
  | nil hlo hlo2 =>
    rename_i nl
    refine (k nl (some 0) A (fun _ => rfl) (Nat.le_refl _) (Keep.refl _ _) rfl).weak (Weak.sub (by rw [frL_n, hm]) fun i x hx => ?_)
    rcases frL_getF (hl nl (some 0)) hx with h | ⟨h, rfl⟩ <;> exact h
  | sl hg hlo hn hh hlen hsc =>
    rename_i β
    refine (k false none (A.kill β) (fun h => by cases h) (Nat.le_refl _) (fun γ X hl' hg' => AH.keep_kill (by omega) hg') rfl).weak ?_
    intro φ w tmps hA hF
    have hx : Ext φ w (upd φ β .gone) w := Ext.kill
    refine ⟨upd φ β .gone, hA.kill (by omega), ⟨by rw [frL_n, hm]; exact hF.size, fun i x hi => ?_⟩, hx⟩
    rcases frL_getF (hl false none) hi with h | ⟨h, rfl⟩
    · obtain ⟨y, a, b⟩ := hF.val i x h; exact ⟨y, a, VRel.ext hx _ _ b⟩
    · obtain ⟨y, hy, a, c, e, ha, hlc, hcap, hroom, hsp⟩ := hF.val i _ h
      refine ⟨y, hy, some a, c, e, hlc, (fun c0 h => by cases h), fun h => (by cases h), fun _ => ?_⟩
      obtain ⟨b, δ, hφ, hB⟩ := hA.blk β _ hg
      have hni : ¬ Im (upd φ β .gone) b := by
        rintro (⟨γ, δ', e'⟩ | hp)
        · by_cases hγ : γ = β
          · subst hγ; rw [upd_self] at e'; cases e'
          · rw [upd_ne _ _ hγ] at e'; exact hγ (hA.inj _ _ _ _ _ e' hφ)
        · exact hA.dis b hp ⟨β, δ, hφ⟩
      refine ⟨a, rfl, fun _ => ?_⟩
      by_cases hc : 0 < c
      · rw [hφ] at ha
        have ha : a = ⟨b, δ + 0, none⟩ := ha hc
        refine ⟨b, δ + 0, by rw [ha], crel_of_cells hni fun i v hv => ?_⟩
        obtain ⟨x, h1, h2, h3⟩ := hB.cells i v hv
        exact ⟨x, by rw [Nat.add_zero]; exact h1, h2, VRel.ext hx _ _ h3⟩
      · have : n = 0 := by omega
        subst this
        have : L = [] := List.eq_nil_of_length_eq_zero (by omega)
        subst this
        exact ⟨a.block, a.off, by rw [← hsp], trivial⟩
/-- at the end: what is handed back is frozen -/
theorem freezes_id {k : Nat} {A : AH} : ∀ {L : List AV}, (∀ v ∈ L, freeze k A v = some v) → omap (freeze k A) L = some L
  | [], _ => rfl
  | v :: L, h => by
    have h1 := h v List.mem_cons_self
    have h2 := freezes_id (L := L) fun u hu => h u (List.mem_cons_of_mem _ hu)
    simp only [omap, h1, h2]
theorem Own.freeze {es lo hi n k : Nat} {A : AH} {v : AV} {L : List AV} (h : Own es lo hi A v n L) (hL : ∀ u ∈ L, Am.freeze k A u = some u) : ∃ nl cap, Am.freeze (k + 1) A v = some (.vec nl n cap L) ∧ (nl = true → n = 0) ∧ CapOk n cap := by
  cases h with
  | nil _ _ =>
    rename_i nl _ _
    exact ⟨nl, some 0, by simp [Am.freeze, omap], fun _ => rfl, Nat.le_refl _⟩
  | sl hg _ _ _ hlen _ =>
    refine ⟨false, none, ?_, fun h => (by cases h), Nat.le_refl _⟩
    simp only [Am.freeze]
    by_cases hn : n = 0
    · subst hn
      have : L = [] := List.eq_nil_of_length_eq_zero (by omega)
      subst this; simp
    · rw [if_neg hn, hg]
      simp only
      rw [List.drop_zero, ← hlen, List.take_length, freezes_id hL]; rfl
end Go.Am
namespace Go.Am
open Go
/-! ## the end of a walk -/
mutual
theorem freeze_ex : ∀ (v : AV), noBlk v = true → ∃ k, ∀ A j, k ≤ j → freeze j A v = some v
  | .bool _, _ => ⟨1, fun A j hj => by obtain ⟨i, rfl⟩ : ∃ i, j = i + 1 := ⟨j - 1, by omega⟩; rfl⟩
  | .int _ _, _ => ⟨1, fun A j hj => by obtain ⟨i, rfl⟩ : ∃ i, j = i + 1 := ⟨j - 1, by omega⟩; rfl⟩
  | .str _, _ => ⟨1, fun A j hj => by obtain ⟨i, rfl⟩ : ∃ i, j = i + 1 := ⟨j - 1, by omega⟩; rfl⟩
  | .nilptr, _ => ⟨1, fun A j hj => by obtain ⟨i, rfl⟩ : ∃ i, j = i + 1 := ⟨j - 1, by omega⟩; rfl⟩
  | .nilmap, _ => ⟨1, fun A j hj => by obtain ⟨i, rfl⟩ : ∃ i, j = i + 1 := ⟨j - 1, by omega⟩; rfl⟩
  | .nilFunc, _ => ⟨1, fun A j hj => by obtain ⟨i, rfl⟩ : ∃ i, j = i + 1 := ⟨j - 1, by omega⟩; rfl⟩
  | .nilIface, _ => ⟨1, fun A j hj => by obtain ⟨i, rfl⟩ : ∃ i, j = i + 1 := ⟨j - 1, by omega⟩; rfl⟩
  | .ptr _ _, h => by cases h
  | .slice _ _ _ _ _, h => by cases h
  | .map _, h => by cases h
  | .iptr cs, h => by
    obtain ⟨k, hk⟩ := freezes_ex cs h
    exact ⟨k + 1, fun A j hj => by obtain ⟨i, rfl⟩ : ∃ i, j = i + 1 := ⟨j - 1, by omega⟩; simp [freeze, hk A i (by omega)]⟩
  | .vec nl n cap cs, h => by
    obtain ⟨k, hk⟩ := freezes_ex cs h
    exact ⟨k + 1, fun A j hj => by obtain ⟨i, rfl⟩ : ∃ i, j = i + 1 := ⟨j - 1, by omega⟩; simp [freeze, hk A i (by omega)]⟩
  | .agg cs, h => by
    obtain ⟨k, hk⟩ := freezes_ex cs h
    exact ⟨k + 1, fun A j hj => by obtain ⟨i, rfl⟩ : ∃ i, j = i + 1 := ⟨j - 1, by omega⟩; simp [freeze, hk A i (by omega)]⟩
  | .tuple cs, h => by
    obtain ⟨k, hk⟩ := freezes_ex cs h
    exact ⟨k + 1, fun A j hj => by obtain ⟨i, rfl⟩ : ∃ i, j = i + 1 := ⟨j - 1, by omega⟩; simp [freeze, hk A i (by omega)]⟩
  | .iface t v, h => by
    obtain ⟨k, hk⟩ := freeze_ex v h
    exact ⟨k + 1, fun A j hj => by obtain ⟨i, rfl⟩ : ∃ i, j = i + 1 := ⟨j - 1, by omega⟩; simp [freeze, hk A i (by omega)]⟩
  | .func fn a b, h => by
    simp only [noBlk, Bool.and_eq_true] at h
    obtain ⟨k, hk⟩ := freezes_ex a h.1
    obtain ⟨k', hk'⟩ := freezes_ex b h.2
    exact ⟨k + k' + 1, fun A j hj => by obtain ⟨i, rfl⟩ : ∃ i, j = i + 1 := ⟨j - 1, by omega⟩; simp [freeze, hk A i (by omega), hk' A i (by omega)]⟩
theorem freezes_ex : ∀ (l : List AV), noBlks l = true → ∃ k, ∀ A j, k ≤ j → omap (freeze j A) l = some l
  | [], _ => ⟨0, fun _ _ _ => rfl⟩
  | c :: l, h => by
    simp only [noBlks, Bool.and_eq_true] at h
    obtain ⟨k, hk⟩ := freeze_ex c h.1
    obtain ⟨k', hk'⟩ := freezes_ex l h.2
    exact ⟨k + k', fun A j hj => by simp only [omap, hk A j (by omega), hk' A j (by omega)]⟩
end
section
variable {C : Cx} {fr : Fr} {A : AH} {R : AV → Prop} {rs : List ResultVar} {r : AV}
theorem leaf_ok (h : retA C rs fr A = some r) (hb : noBlk r = true) (hR : R r) : ∃ r, retA C rs fr A = some r ∧ ∃ k u, freeze k A r = some u ∧ R u := by
  obtain ⟨k, hk⟩ := freeze_ex r hb
  exact ⟨r, h, k, r, hk A k (Nat.le_refl _), hR⟩
theorem leaf_own {es lo hi n : Nat} {L : List AV} (h : retA C rs fr A = some r) (hO : Own es lo hi A r n L) (hb : noBlks L = true) (hR : ∀ nl cap, (nl = true → n = 0) → CapOk n cap → R (.vec nl n cap L)) :
    ∃ r, retA C rs fr A = some r ∧ ∃ k u, freeze k A r = some u ∧ R u := by
  obtain ⟨k, hk⟩ := freezes_ex L hb
  have key : ∃ nl cap, freeze (k + 1) A r = some (.vec nl n cap L) ∧ (nl = true → n = 0) ∧ CapOk n cap := by
    cases hO with
    | nil _ _ =>
      rename_i nl _ _
      exact ⟨nl, some 0, by simp [Am.freeze, omap], fun _ => rfl, Nat.le_refl _⟩
    | sl hg _ _ _ hlen _ =>
      refine ⟨false, none, ?_, fun h => (by cases h), Nat.le_refl _⟩
      simp only [Am.freeze]
      by_cases hn : n = 0
      · subst hn
        have : L = [] := List.eq_nil_of_length_eq_zero (by omega)
        subst this; simp
      · rw [if_neg hn, hg]
        simp only
        rw [List.drop_zero, ← hlen, List.take_length, hk A k (Nat.le_refl _)]; rfl
  obtain ⟨nl, cap, h1, h2, h3⟩ := key
  exact ⟨r, h, k + 1, _, h1, hR nl cap h2 h3⟩
/-- a made slice is handed back -/
theorem leaf_made {β n es : Nat} {cap : Option Nat} {L : List AV} (h : retA C rs fr A = some (.slice β 0 n cap es)) (hg : A.get β = some (.cells L)) (hlen : L.length = n * es) (hc : CapOk n cap) (hb : noBlks L = true) (hR : R (.vec false n cap L)) :
    ∃ r, retA C rs fr A = some r ∧ ∃ k u, freeze k A r = some u ∧ R u := by
  obtain ⟨k, hk⟩ := freezes_ex L hb
  refine ⟨_, h, k + 1, .vec false n cap L, ?_, hR⟩
  simp only [Am.freeze]
  by_cases hn : n = 0
  · subst hn
    have : L = [] := List.eq_nil_of_length_eq_zero (by omega)
    subst this; simp
  · rw [if_neg hn, hg]
    simp only
    rw [List.drop_zero, ← hlen, List.take_length, hk A k (Nat.le_refl _)]; rfl
theorem ret_c {a : Nat} {t : TypeId} {β o : Nat} {cs : List AV} {v : AV} (h1 : fr.get a = some (.ptr β o)) (hg : A.get β = some (.cells cs)) (hp : partA C t cs o = some v) : retA C [.cell a t] fr A = some v := by
  simp [retA, omap, resA, h1, hg, hp]
theorem ret_ct {a b : Nat} {t : TypeId} {β o : Nat} {cs : List AV} {v u : AV} (h1 : fr.get a = some (.ptr β o)) (hg : A.get β = some (.cells cs)) (hp : partA C t cs o = some v) (h2 : fr.get b = some u) :
    retA C [.cell a t, .tmp b] fr A = some (.tuple [v, u]) := by
  simp [retA, omap, resA, h1, hg, hp, h2]
theorem int_eq {k : IntKind} {a b : Int} (h : a = b) : some (AV.int k a) = some (AV.int k b) := by rw [h]
theorem vec_eq {nl : Bool} {n m : Nat} {cap : Option Nat} {cs ds : List AV} (h : n = m) (k : cs = ds) : some (AV.vec nl n cap cs) = some (AV.vec nl m cap ds) := by rw [h, k]
theorem CapOk.mono {n m : Nat} {cap : Option Nat} (h : CapOk n cap) (k : m ≤ n) : CapOk m cap := by unfold CapOk at *; cases cap <;> simp_all; omega
end
end Go.Am
namespace Go.Am
open Go
/-! ## arguments that are given up -/
/-- u is v, with block β frozen -/
def Fz (β : Nat) (L : List AV) (v u : AV) : Prop := (noBlk v = true ∧ u = v) ∨ ∃ n cap es, v = .slice β 0 n cap es ∧ u = .vec false n cap L ∧ L.length = n * es
def FzL (β : Nat) (L : List AV) : List AV → List AV → Prop
  | [], us => us = []
  | v :: vs, us => ∃ u us', us = u :: us' ∧ Fz β L v u ∧ FzL β L vs us'
theorem PureR.eat {C : Cx} (hP : C.Plain) {f : FuncId} {us args : List AV} {R : AV → Prop} {A : AH} {β : Nat} {L : List AV} (h : PureR C f us R) (hg : A.get β = some (.cells L)) (hL : noBlks L = true) (hF : FzL β L args us) :
    ACall C f args A fun r A' => A' = A.kill β ∧ R r := by
  refine ⟨(h A).1, fun φ w vs hA hG hv => ?_⟩
  obtain ⟨b₀, δ₀, hφ, hB⟩ := hA.blk β _ hg
  let φ₀ : Env := ⟨fun _ => .unborn, fun b => Im φ b ∧ b ≠ b₀⟩
  have hLv : ∀ b, ¬ Lv φ₀ b := fun b ⟨β, δ, e⟩ => by cases e
  have hless : Less φ φ₀ (fun _ => True) := ⟨fun β hn => (hn trivial).elim, fun b x => x.elim (fun y => (hLv b y).elim) (fun y => y.1)⟩
  have hA₀ : HRel φ₀ AH.empty w := ⟨fun β => by constructor <;> intro _ <;> rfl, fun _ _ => rfl, fun β B hB => (by cases hB), fun β b δ e => (by cases e), fun β γ b δ δ' e => (by cases e), fun b x => x.1.elim (Env.lv_lt hA) (hA.prv b), fun b _ => hLv b⟩
  have hG₀ : GRel C φ₀ w := fun g cs hg => by
    exact CRel.less hless g 0 cs (fun i _ => noBlks_ment i cs (hP g cs hg)) (hG g cs hg)
  have hn0 : ¬ Im φ₀ b₀ := fun x => x.elim (hLv b₀) (fun y => y.2 rfl)
  have key : ∀ {ars us' : List AV} {ys : List Value}, FzL β L ars us' → VRels φ w ars ys → VRels φ₀ w us' ys := by
    intro ars
    induction ars with
    | nil => intro us' ys h1 h2; obtain rfl : us' = [] := h1; exact h2
    | cons a ars ih =>
      rintro us' ys ⟨u, us₁, rfl, hu, hus⟩ ⟨y, ys', rfl, hy, hys⟩
      refine ⟨y, ys', rfl, ?_, ih hus hys⟩
      rcases hu with ⟨hb, rfl⟩ | ⟨n, cap, es, rfl, rfl, hlen⟩
      · exact VRel.less hless u y (fun i _ => noBlk_ment i u hb) hy
      · obtain ⟨a, c, e, ha, hlc, hcap, hroom, hsp⟩ := hy
        refine ⟨some a, c, e, hlc, hcap, fun h => (by cases h), fun _ => ?_⟩
        refine ⟨a, rfl, fun _ => ?_⟩
        by_cases hc : 0 < c
        · rw [hφ] at ha
          have ha : a = ⟨b₀, δ₀ + 0, none⟩ := ha hc
          refine ⟨b₀, δ₀ + 0, by rw [ha], crel_of_cells hn0 fun i v hv => ?_⟩
          obtain ⟨x, h1, h2, h3⟩ := hB.cells i v hv
          refine ⟨x, by rw [Nat.add_zero]; exact h1, h2, VRel.less hless v x (fun j _ => ?_) h3⟩
          exact ments_get (noBlks_ment j L hL) hv
        · have : n = 0 := by omega
          subst this
          have : L = [] := List.eq_nil_of_length_eq_zero (by omega)
          subst this
          exact ⟨a.block, a.off, by rw [← hsp], trivial⟩
  refine ((h AH.empty).2 φ₀ w vs hA₀ hG₀ (key hF hv)).mono fun e w' ⟨y, φ', r', A₁, he, h1, h2, h3, hA1, hR⟩ => ?_
  subst hA1
  have hE : Ext φ w (upd φ β .gone) w' := by
    have hx : Ext φ w (upd φ β .gone) w := Ext.kill
    exact ⟨hx.mono, fun b hb _ => h3.keep b hb (hLv b), fun b x => hx.lv b x, h3.shape, h3.size, rfl, h3.os, h3.tape, h3.output⟩
  have hk := hA.kill (hA.lt hφ)
  have him : ∀ b, Im (upd φ β .gone) b → Im φ b ∧ b ≠ b₀ := by
    rintro b (⟨γ, δ', e'⟩ | hp)
    · by_cases hγ : γ = β
      · subst hγ; rw [upd_self] at e'; cases e'
      · rw [upd_ne _ _ hγ] at e'
        exact ⟨.inl ⟨γ, δ', e'⟩, fun e => hγ (hA.inj _ _ _ _ _ e' (e ▸ hφ))⟩
    · exact ⟨.inr hp, fun e => hA.dis b hp ⟨β, δ₀, e ▸ hφ⟩⟩
  have hX : Ext0 φ' w' (upd φ β .gone) w' := by
    refine ⟨fun γ hγ => absurd ((h2.born γ).2 rfl) hγ, fun _ _ _ => rfl, fun b hb => .inl (.inr (by rw [h3.priv]; exact him b hb)), fun _ _ h => h⟩
  refine ⟨y, upd φ β .gone, r', A.kill β, he, VRel.ext0 hX _ _ h1, ⟨hk.born, hk.fresh, fun γ B hB' => ?_, hk.live, hk.inj, fun b hb => Nat.lt_of_lt_of_le (hk.prv b hb) h3.size, hk.dis⟩, hE, rfl, hR⟩
  obtain ⟨b, δ, e, x⟩ := hk.blk γ B hB'
  refine ⟨b, δ, e, x.ext ⟨fun _ _ => .inl rfl, fun b hb _ => h3.keep b hb (hLv b), fun _ x => .inl x, h3.shape, h3.size, rfl, h3.os, h3.tape, h3.output⟩ (h3.keep b x.lt (hLv b))⟩
/-- build of a struct -/
theorem pv_build {C : Cx} {ρ : Operand → Option AV} {t : TypeId} {ti : TyI} {fs : Array Field} {parts : Array (Nat × Operand)} {ps : List (Nat × AV)} {pl : List (Nat × Nat)} {cs : List AV} (hT : C.T t = some ti) (hd : ti.desc = .struct fs)
    (hp : omap (fun p : Nat × Operand => (ρ p.2).map fun v => (p.1, v)) parts.toList = some ps) (hl : omap (fun f : Field => (C.T f.type).map fun fi => (f.offset, fi.size)) fs.toList = some pl)
    (hf : afill (pl[·]?) ti.zero ps = some cs) : pureOp C ρ (.build t parts) = some (.agg cs) := by
  simp only [pureOp, hp, Option.bind_some, aBuild, hT, hd, hl, hf, Option.map_some]
end Go.Am
namespace Go.Am
open Go
theorem FzL.freeze {A : AH} {β : Nat} {L : List AV} (hg : A.get β = some (.cells L)) (hL : noBlks L = true) : ∀ {args us : List AV}, FzL β L args us → ∃ k, ∀ j, k ≤ j → omap (Am.freeze j A) args = some us
  | [], us, h => ⟨0, fun _ _ => by obtain rfl : us = [] := h; rfl⟩
  | v :: vs, us, ⟨u, us', e, hu, hus⟩ => by
    subst e
    obtain ⟨k, hk⟩ := FzL.freeze hg hL hus
    have : ∃ k, ∀ j, k ≤ j → Am.freeze j A v = some u := by
      rcases hu with ⟨hb, rfl⟩ | ⟨n, cap, es, rfl, rfl, hlen⟩
      · obtain ⟨k, hk⟩ := freeze_ex u hb
        exact ⟨k, fun j hj => hk A j hj⟩
      · obtain ⟨k, hk⟩ := freezes_ex L hL
        refine ⟨k + 1, fun j hj => ?_⟩
        obtain ⟨i, rfl⟩ : ∃ i, j = i + 1 := ⟨j - 1, by omega⟩
        simp only [Am.freeze]
        by_cases hn : n = 0
        · subst hn
          have : L = [] := List.eq_nil_of_length_eq_zero (by omega)
          subst this; simp
        · rw [if_neg hn, hg]
          simp only
          rw [List.drop_zero, ← hlen, List.take_length, hk A i (by omega)]; rfl
    obtain ⟨k', hk'⟩ := this
    exact ⟨k + k', fun j hj => by simp only [omap, hk j (by omega), hk' j (by omega)]⟩
/-- a slice is lent to a call whose result has no memory -/
theorem PureR.lend1 {C : Cx} (hP : C.Plain) {f : FuncId} {us args : List AV} {R : AV → Prop} {A : AH} {β : Nat} {L : List AV} (h : PureR C f us R) (hg : A.get β = some (.cells L)) (hL : noBlks L = true) (hF : FzL β L args us) (hr : ∀ r, R r → flat r = true) :
    ACall C f args A fun r A' => A' = A ∧ R r := by
  obtain ⟨k, hk⟩ := FzL.freeze hg hL hF
  exact PureR.lend hP h (hk k (Nat.le_refl _)) hr
end Go.Am
namespace Go.Am
open Go
/-- what is handed back holds an owned slice -/
theorem leaf_own1 {C : Cx} {fr : Fr} {A : AH} {R : AV → Prop} {rs : List ResultVar} {f : AV → AV} {v : AV} {es lo hi n : Nat} {L : List AV} (h : retA C rs fr A = some (f v)) (hO : Own es lo hi A v n L) (hb : noBlks L = true)
    (hf : ∀ k A v u, freeze (k + 1) A v = some u → freeze (k + 3) A (f v) = some (f u)) (hR : ∀ nl cap, (nl = true → n = 0) → CapOk n cap → R (f (.vec nl n cap L))) :
    ∃ r, retA C rs fr A = some r ∧ ∃ k u, freeze k A r = some u ∧ R u := by
  obtain ⟨k, hk⟩ := freezes_ex L hb
  have key : ∃ nl cap, freeze (k + 1) A v = some (.vec nl n cap L) ∧ (nl = true → n = 0) ∧ CapOk n cap := by
    cases hO with
    | nil _ _ =>
      rename_i nl _ _
      exact ⟨nl, some 0, by simp [Am.freeze, omap], fun _ => rfl, Nat.le_refl _⟩
    | sl hg _ _ _ hlen _ =>
      refine ⟨false, none, ?_, fun h => (by cases h), Nat.le_refl _⟩
      simp only [Am.freeze]
      by_cases hn : n = 0
      · subst hn
        have : L = [] := List.eq_nil_of_length_eq_zero (by omega)
        subst this; simp
      · rw [if_neg hn, hg]
        simp only
        rw [List.drop_zero, ← hlen, List.take_length, hk A k (Nat.le_refl _)]; rfl
  obtain ⟨nl, cap, h1, h2, h3⟩ := key
  exact ⟨_, h, k + 3, _, hf _ _ _ _ h1, hR nl cap h2 h3⟩
end Go.Am
namespace Go.Am
open Go
theorem freeze_agg2 {k : Nat} {A : AH} {a a' v u : AV} (h1 : freeze k A a = some a') (h2 : freeze k A v = some u) : freeze (k + 1) A (.agg [a, v]) = some (.agg [a', u]) := by
  show Option.map AV.agg (omap (freeze k A) [a, v]) = _
  simp only [omap, h1, h2, Option.map_some]
theorem freeze_tup2 {k : Nat} {A : AH} {a a' v u : AV} (h1 : freeze k A a = some a') (h2 : freeze k A v = some u) : freeze (k + 1) A (.tuple [a, v]) = some (.tuple [a', u]) := by
  show Option.map AV.tuple (omap (freeze k A) [a, v]) = _
  simp only [omap, h1, h2, Option.map_some]
end Go.Am

namespace Go.Am
open Go
/-- a made slice is frozen -/
theorem AWp.freezeM {C : Cx} {c : Code} {fr : Fr} {A : AH} {Q : Go.Exit → Fr → AH → Prop} {β es n m : Nat} {cap : Option Nat} {L : List AV} {l : List (Nat × AV)} (hg : A.get β = some (.cells L)) (hlen : L.length = n * es) (hm : m = fr.n)
    (hl : FrHasF fr (.slice β 0 n cap es) (.vec false n cap L) l)
    (k : ∀ A', Chg A A' β → A'.next = A.next → AWp C c (frL m l) A' Q) : AWp C c fr A Q := by
  refine (k (A.kill β) (fun γ X hl' hg' => AH.keep_kill hl' hg') rfl).weak ?_
  intro φ w tmps hA hF
  have hx : Ext φ w (upd φ β .gone) w := Ext.kill
  obtain ⟨b, δ, hφ, hB⟩ := hA.blk β _ hg
  refine ⟨upd φ β .gone, hA.kill (hA.lt hφ), ⟨by rw [frL_n, hm]; exact hF.size, fun i x hi => ?_⟩, hx⟩
  rcases frL_getF hl hi with h | ⟨h, rfl⟩
  · obtain ⟨y, a, b⟩ := hF.val i x h; exact ⟨y, a, VRel.ext hx _ _ b⟩
  · obtain ⟨y, hy, a, c, e, ha, hlc, hcap, hroom, hsp⟩ := hF.val i _ h
    refine ⟨y, hy, some a, c, e, hlc, hcap, fun h => (by cases h), fun _ => ?_⟩
    have hni : ¬ Im (upd φ β .gone) b := by
      rintro (⟨γ, δ', e'⟩ | hp)
      · by_cases hγ : γ = β
        · subst hγ; rw [upd_self] at e'; cases e'
        · rw [upd_ne _ _ hγ] at e'; exact hγ (hA.inj _ _ _ _ _ e' hφ)
      · exact hA.dis b hp ⟨β, δ, hφ⟩
    refine ⟨a, rfl, fun _ => ?_⟩
    by_cases hc : 0 < c
    · rw [hφ] at ha
      have ha : a = ⟨b, δ + 0, none⟩ := ha hc
      refine ⟨b, δ + 0, by rw [ha], crel_of_cells hni fun i v hv => ?_⟩
      obtain ⟨x, h1, h2, h3⟩ := hB.cells i v hv
      exact ⟨x, by rw [Nat.add_zero]; exact h1, h2, VRel.ext hx _ _ h3⟩
    · have : n = 0 := by omega
      subst this
      have : L = [] := List.eq_nil_of_length_eq_zero (by omega)
      subst this
      exact ⟨a.block, a.off, by rw [← hsp], trivial⟩
/-- memory that grows -/
structure Gr (A A' : AH) : Prop where
  get : Grw A A'
  next : A.next ≤ A'.next
theorem Gr.refl (A : AH) : Gr A A := ⟨fun _ _ _ h => h, Nat.le_refl _⟩
theorem Gr.trans {A B D : AH} (h : Gr A B) (k : Gr B D) : Gr A D := ⟨fun γ X hl hg => k.get γ X (Nat.lt_of_lt_of_le hl h.next) (h.get γ X hl hg), Nat.le_trans h.next k.next⟩
/-! ## maps whose keys are integers -/
section
variable {C : Cx} {ρ : Operand → Option AV} {A : AH}
theorem aEq_int {d : Nat} {t : TypeId} {ti : TyI} {k : IntKind} {a b : Int} (hT : C.T t = some ti) (hd : ti.desc = .int k) : aEqual C (d + 1) t (.int k a) (.int k b) = some (a == b) := by
  rw [aEqual, hT, Option.bind_some, hd]; simp
theorem aKeyOk_int {d : Nat} {t : TypeId} {ti : TyI} {k : IntKind} {a : Int} (hT : C.T t = some ti) (hd : ti.desc = .int k) : aKeyOk C (d + 1) t (.int k a) = true := by
  rw [aKeyOk, hT]; simp [hd]
/-- every entry's key is an integer, and its element is good for it -/
def MapOk (k : IntKind) (G : Int → AV → Prop) (es : List (AV × AV)) : Prop := ∀ e ∈ es, ∃ i, e.1 = .int k i ∧ G i e.2
theorem afind_int {t : TypeId} {ti : TyI} {k : IntKind} {G : Int → AV → Prop} {i : Int} (hT : C.T t = some ti) (hd : ti.desc = .int k) : ∀ {es : List (AV × AV)} (n : Nat), MapOk k G es →
    (afind C t (.int k i) es n = some none) ∨ ∃ j v, afind C t (.int k i) es n = some (some (n + j, v)) ∧ es[j]? = some (.int k i, v) ∧ G i v
  | [], n, _ => .inl rfl
  | e :: es, n, h => by
    obtain ⟨i', e1, hG⟩ := h e List.mem_cons_self
    have ih := afind_int (i := i) hT hd (n + 1) (fun e he => h e (List.mem_cons_of_mem _ he))
    have hq : aEqual C 10000 t (.int k i) e.1 = some (i == i') := by rw [e1]; exact aEq_int (d := 9999) hT hd
    simp only [afind, hq, Option.bind_some]
    by_cases hi : i = i'
    · subst hi
      right
      refine ⟨0, e.2, by simp, ?_, hG⟩
      rw [← e1]; rfl
    · have : (i == i') = false := by simpa using hi
      rw [this]
      rcases ih with h1 | ⟨j, v, h1, h2, h3⟩
      · exact .inl (by simpa using h1)
      · refine .inr ⟨j + 1, v, ?_, by simpa using h2, h3⟩
        rw [show n + (j + 1) = n + 1 + j by omega]; simpa using h1
theorem rv_lookup {t kt et : TypeId} {ti ki : TyI} {k : IntKind} {m x : Operand} {β : Nat} {G : Int → AV → Prop} {i : Int} {es : List (AV × AV)} {z : AV} (hT : C.T t = some ti) (hd : ti.desc = .map kt et) (hK : C.T kt = some ki) (hkd : ki.desc = .int k)
    (hz : zvalA C et = some z) (hm : ρ m = some (.map β)) (hx : ρ x = some (.int k i)) (hes : MapOk k G es) :
    ∃ f u, readOp C ρ (.lookup t m x true) = some (.at β f) ∧ f (.map es) = some u ∧ ((∃ v, u = .tuple [v, .bool true] ∧ G i v) ∨ u = .tuple [z, .bool false]) := by
  refine ⟨fun B => match B with | .map es => aLookup C t (.int k i) true es | _ => none, ?_⟩
  have e1 : readOp C ρ (.lookup t m x true) = some (.at β fun B => match B with | .map es => aLookup C t (.int k i) true es | _ => none) := by
    show (ρ m).bind _ = _
    rw [hm, Option.bind_some, hx]; rfl
  have e2 : aKeyOk C 10000 kt (.int k i) = true := aKeyOk_int (d := 9999) hK hkd
  rcases afind_int (C := C) (i := i) hK hkd 0 hes with h | ⟨j, v, h, _, hG⟩
  · exact ⟨.tuple [z, .bool false], e1, by simp only [aLookup, hT, Option.bind_some, hd, e2, if_true, h, hz, Option.map_some], .inr rfl⟩
  · exact ⟨.tuple [v, .bool true], e1, by simp only [aLookup, hT, Option.bind_some, hd, e2, if_true, h], .inl ⟨v, rfl, hG⟩⟩
theorem ev_mapset {t kt et : TypeId} {ti ki : TyI} {k : IntKind} {m x y : Operand} {β : Nat} {G : Int → AV → Prop} {i : Int} {es : List (AV × AV)} {v : AV} (hT : C.T t = some ti) (hd : ti.desc = .map kt et) (hK : C.T kt = some ki) (hkd : ki.desc = .int k)
    (hm : ρ m = some (.map β)) (hx : ρ x = some (.int k i)) (hy : ρ y = some v) (hg : A.get β = some (.map es)) (hes : MapOk k G es) (hG : G i v) :
    ∃ es', effOp C ρ (.mapUpdate t m x y) A = some (.tuple [], A.put β (.map es')) ∧ MapOk k G es' := by
  have e2 : aKeyOk C 10000 kt (.int k i) = true := aKeyOk_int (d := 9999) hK hkd
  have e3 : ∀ es', aMapSet C t (.int k i) v es = some es' → effOp C ρ (.mapUpdate t m x y) A = some (.tuple [], A.put β (.map es')) := by
    intro es' h
    simp only [effOp, hm, hx, hy, Option.bind_some, hg, h, Option.map_some]
  rcases afind_int (C := C) (i := i) hK hkd 0 hes with h | ⟨j, u, h, hj, _⟩
  · refine ⟨es ++ [(.int k i, v)], e3 _ (by simp only [aMapSet, hT, Option.bind_some, hd, e2, if_true, h]), fun e he => ?_⟩
    rcases List.mem_append.1 he with he | he
    · exact hes e he
    · rw [List.mem_singleton] at he; subst he; exact ⟨i, rfl, hG⟩
  · refine ⟨es.set j (.int k i, v), e3 _ ?_, fun e he => ?_⟩
    · simp only [aMapSet, hT, Option.bind_some, hd, e2, if_true, h, Nat.zero_add, hj, Option.map_some]
      rw [if_pos]
      simp [aSameKey, aSameSc]
    · rcases List.mem_or_eq_of_mem_set he with h1 | rfl
      · exact hes e h1
      · exact ⟨i, rfl, hG⟩
end
end Go.Am

namespace Go.Am
open Go
theorem pv_nilc {C : Cx} {ρ : Operand → Option AV} {x : Operand} {β o : Nat} (hx : ρ x = some (.ptr β o)) : pureOp C ρ (.nilCheck x) = some (.ptr β o) := by
  show (ρ x).bind _ = _
  rw [hx]; rfl
end Go.Am

namespace Go.Am
open Go
section
variable {C : Cx} {A : AH} {fr : Fr} {ops : Array Oper} {K : Fr → AH → Prop} {o : Oper} {rest : List Oper}
theorem s_lookup {β : Nat} {B : ABlk} {P : AV → Prop} (hf : fr.fits o.dst = true) (hw : wantedA ops fr o = some true) (h : ∃ f u, readOp C (evalO C fr) o.op = some (.at β f) ∧ f B = some u ∧ P u) (hg : A.get β = some B)
    (k : ∀ u, P u → seqWp C ops K rest (fr.put o.dst u) A) : seqWp C ops K (o :: rest) fr A := by
  obtain ⟨f, u, h1, h2, h3⟩ := h
  exact s_read hf hw h1 hg h2 (k u h3)
theorem s_putE {β : Nat} {v : AV} {P : List (AV × AV) → Prop} (hf : fr.fits o.dst = true) (hw : wantedA ops fr o = some true) (h : ∃ es, effOp C (evalO C fr) o.op A = some (v, A.put β (.map es)) ∧ P es)
    (k : ∀ es A', P es → A'.next = A.next → A'.get β = some (.map es) → Chg A A' β → seqWp C ops K rest (fr.put o.dst v) A') : seqWp C ops K (o :: rest) fr A := by
  obtain ⟨es, h1, h2⟩ := h
  exact s_eff hf hw h1 (k es _ h2 rfl (AH.get_put_self _ _ _) fun _ _ hl hg => AH.keep_put hl hg)
end
/-- A' keeps what A held, but for block β -/
structure HK (β : Nat) (A A' : AH) : Prop where
  get : ∀ γ X, γ ≠ β → γ < A.next → A.get γ = some X → A'.get γ = some X
  next : A.next ≤ A'.next
theorem HK.refl (β : Nat) (A : AH) : HK β A A := ⟨fun _ _ _ _ h => h, Nat.le_refl _⟩
theorem HK.grw {β : Nat} {A A' A'' : AH} (h : HK β A A') (hg : Grw A' A'') (hn : A'.next ≤ A''.next) : HK β A A'' :=
  ⟨fun γ X h1 h2 h3 => hg γ X (Nat.lt_of_lt_of_le h2 h.next) (h.get γ X h1 h2 h3), Nat.le_trans h.next hn⟩
theorem HK.chg {β γ : Nat} {A A' A'' : AH} (h : HK β A A') (hc : Chg A' A'' γ) (hn : A''.next = A'.next) (hb : A.next ≤ γ ∨ γ = β) : HK β A A'' :=
  ⟨fun δ X h1 h2 h3 => hc δ X (by omega) (h.get δ X h1 h2 h3), by rw [hn]; exact h.next⟩
theorem HK.trans {β : Nat} {A A' A'' : AH} (h : HK β A A') (k : HK β A' A'') : HK β A A'' :=
  ⟨fun γ X h1 h2 h3 => k.get γ X h1 (Nat.lt_of_lt_of_le h2 h.next) (h.get γ X h1 h2 h3), Nat.le_trans h.next k.next⟩
end Go.Am

namespace Go.Am
open Go
theorem nv_map {C : Cx} {ρ : Operand → Option AV} {t : TypeId} : newOp C ρ (.makeMap t none) = some (.map [], .map) := rfl
/-- append of a frozen slice to an empty one -/
theorem ev_appv {C : Cx} {ρ : Operand → Option AV} {A : AH} {t e : TypeId} {ti ei : TyI} {s x : Operand} {β n es : Nat} {nl : Bool} {cap : Option Nat} {cs : List AV} (hT : C.T t = some ti) (hd : ti.desc = .slice e) (hE : C.T e = some ei)
    (hs : ρ s = some (.slice β 0 0 (some 0) es)) (hx : ρ x = some (.vec nl n cap cs)) (hg : A.get β = some (.cells [])) (hlen : cs.length = n * es) (hsz : ei.size = es) (hz : ei.zero.length = ei.size) (hcs : cs.all AV.sc = true) (hn : 0 < n)
    (h48 : (2 * n + 192) * ei.bytes ≤ 2 ^ 48) (hlt : n < 2 ^ 48) :
    effOp C ρ (.call ⟨.builtin .append, #[s, x], #[t, t]⟩) A = some (.slice A.next 0 n none es, A.alloc (.cells cs)) := by
  have e1 : omap ρ [s, x] = some [.slice β 0 0 (some 0) es, .vec nl n cap cs] := by simp [omap, hs, hx]
  have e2 : srcA A ei.size (.vec nl n cap cs) = some (cs, n) := by simp [srcA, hlen, hsz]
  simp only [effOp, e1, Option.bind_some, aAppend, List.getElem?_toArray, List.getElem?_cons_zero, List.getElem?_cons_succ, hT, hd, hE, e2]
  simp only [isIntD, Bool.false_eq_true, if_false]
  rw [if_neg (by omega), if_pos ⟨hcs, hz⟩]
  simp only [aAppendTo, Nat.zero_add]
  rw [if_pos ⟨h48, hlt, hsz.symm⟩, hg]
  simp only [List.length_nil, Nat.zero_mul, Nat.le_refl, if_true]
  rw [if_neg (by omega)]
  simp
end Go.Am
namespace Go.Am
open Go
theorem Own.pos {es lo hi n : Nat} {A : AH} {v : AV} {L : List AV} (h : Own es lo hi A v n L) (hn : 0 < n) : ∃ β, v = .slice β 0 n none es ∧ A.get β = some (.cells L) ∧ lo ≤ β ∧ β < hi := by
  cases h with
  | nil _ _ => omega
  | sl hg h1 h2 h3 h4 h5 => exact ⟨_, rfl, hg, h1, h2⟩
/-- these slots hold values without blocks -/
def FrNB (fr : Fr) : List Nat → Prop
  | [] => True
  | t :: ts => (∃ v, fr.get t = some v ∧ noBlk v = true) ∧ FrNB fr ts
theorem FrNB.get {fr : Fr} {id : Nat} : ∀ {ts : List Nat} {t : Nat} {v : AV}, FrNB fr ts → t ∈ ts → fr.get t = some v → ment id v = false
  | t' :: ts, t, v, ⟨⟨u, hu, hb⟩, h⟩, ht, hv => by
    rcases List.mem_cons.1 ht with rfl | ht
    · obtain rfl := Option.some.inj (hu.symm.trans hv); exact noBlk_ment id _ hb
    · exact h.get ht hv
section
variable {C : Cx} {A : AH} {fr : Fr} {ops : Array Oper} {ms : List Nat} {K : Fr → AH → Prop} {o : Oper} {i j : Nat} {rest : List Nat} {J : List Nat}
/-- a call that leaves memory alone, while one new block is hidden -/
theorem q_callpH {f : FuncId} {args : List AV} {R : AV → Prop} {ts : List Nat} {B : ABlk} (ho : ops[i]? = some o) (hf : fr.fits o.dst = true) (hw : wantedA ops fr o = some true) (he : isE o = true)
    (hun : A.st A.next = none) (hm : (ms.getD i 0).testBit j = false) (hts : opTmps o = ts) (hnb : FrNB fr ts)
    (h : callA (evalR C fr (opTmps o)) o.op = some (f, args)) (hc : PureR C f args R) (k : ∀ r, R r → qWp C ops ms K rest (fr.put o.dst r) A.reserve [(j, A.next, B)] J) : qWp C ops ms K (i :: rest) fr A.reserve [(j, A.next, B)] J :=
  fun W hW => by
    have e1 : [(j, A.next, B)].filter (fun h => !hidIn (ms.getD i 0) h) = [(j, A.next, B)] := by simp only [List.filter_cons, hidIn, hm]; rfl
    have e2 : [(j, A.next, B)].filter (hidIn (ms.getD i 0)) = [] := by simp only [List.filter_cons, hidIn, hm]; rfl
    refine ⟨o, ho, hf, .inr ⟨hw, ?_⟩⟩
    rw [he]
    simp only [e1, e2, if_true]
    refine ⟨fun x hx => ?_, .inr ⟨f, args, h, (hc A.reserve).mono ?_⟩⟩
    · rw [List.mem_singleton] at hx
      subst hx
      exact ⟨fun t ht v hv => by rw [hts] at ht; exact hnb.get ht hv, fun _ h => by simp at h⟩
    · rintro r A' ⟨rfl, hr⟩
      refine ⟨fun x hx => (hW x (List.mem_filter.1 hx).1).2, fun x hx => ?_, k r hr _ fun x hx => hW x (List.mem_filter.1 hx).1⟩
      rw [List.mem_singleton] at hx
      subst hx
      exact ⟨hun, Nat.lt_succ_self _⟩
/-- the hidden block comes to light, and is written -/
theorem q_storeH {u : AV} {B B' : ABlk} (ho : ops[i]? = some o) (hf : fr.fits o.dst = true) (hw : wantedA ops fr o = some true) (he : isE o = true)
    (hm : (ms.getD i 0).testBit j = true) (hJ : (J.all fun j => (ms.getD i 0).testBit j) = true)
    (h : effOp C (evalR C fr (opTmps o)) o.op (A.alloc B) = some (u, (A.alloc B).put A.next B'))
    (k : ∀ A' : AH, A'.next = A.next + 1 → A'.get A.next = some B' → Grw A A' → qWp C ops ms K rest (fr.put o.dst u) A' [] []) : qWp C ops ms K (i :: rest) fr A.reserve [(j, A.next, B)] J :=
  q_eff ho hf hw he (by simp only [List.all_cons, List.all_nil, hm]; rfl) hJ h (k _ rfl (AH.get_put_self _ _ _) fun γ X hl hg => AH.keep_put (by omega) (AH.keep_alloc hl hg))
end
/-- where a new block will lie nothing lies yet -/
theorem AWp.fresh {C : Cx} {c : Code} {fr : Fr} {A : AH} {Q : Go.Exit → Fr → AH → Prop} (h : (∀ γ, A.next ≤ γ → A.st γ = none) → AWp C c fr A Q) : AWp C c fr A Q :=
  fun D φ w a hA hG hF hD => h hA.fresh D φ w a hA hG hF hD
end Go.Am

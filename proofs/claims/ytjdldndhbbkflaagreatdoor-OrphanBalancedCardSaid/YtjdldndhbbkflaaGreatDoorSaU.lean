/- For every rule handed to it as plain data the call of cellularlaw49.OrphanBalanced returns true and the argument reads afterwards as it read before. The condition is the row's own: the three package-level tables that the row lists hold what the program's text lays there (the given tie). Nothing else is assumed. -/
import Derived.Test.YtjdldndhbbkflaaGreatDoorSaT
import Derived.Test.YtjdldndhbbkflaaGreatDoorAmI
import Derived.Deep.DeepHandedRow
import Derived.Test.YtjdldndhbbkflaaGreatDoorCards
import Derived.Test.YtjdldndhbbkflaaGreatDoorTie
set_option autoImplicit false
set_option linter.unusedVariables false
set_option linter.unusedSimpArgs false
set_option maxRecDepth 100000
noncomputable section
namespace Go.Am.Seat
open Go Go.Am Go.Proofs Go.ChangeShapes Go.WideShapes Go.RowKit
open Go.Proofs.YtjdldndhbbkflaaGreatDoor
/-! ## how a rule reads -/
theorem u3 : Tryz.prog.underlying 3 = some (.int .i64) := by kernel_rfl
theorem u4 : Tryz.prog.underlying 4 = some .bool := by kernel_rfl
theorem u22 : Tryz.prog.underlying 22 = some (.slice 53) := by kernel_rfl
theorem u23 : Tryz.prog.underlying 23 = some (.slice 49) := by kernel_rfl
theorem u29 : Tryz.prog.underlying 29 = some (.slice 3) := by kernel_rfl
section
variable {H : Type} {enc : TypeId × Value → H} {w : World}
theorem i64_of {n : Int} (h : IntKind.i64.min ≤ n ∧ n ≤ IntKind.i64.max) : -9223372036854775808 ≤ n ∧ n ≤ 9223372036854775807 := by
  have a : IntKind.i64.min = -9223372036854775808 := by decide
  have b : IntKind.i64.max = 9223372036854775807 := by decide
  omega
def fields : TypeDesc → Array Field
  | .struct fs => fs
  | _ => #[]
theorem read_pt : Reader enc Tryz.prog w 53 encPt (fun _ => True) :=
  (read_two (fs := fields ty53.desc) (by kernel_rfl) (by kernel_rfl) (by kernel_rfl) (by kernel_rfl) (read_int u3) (read_int u3)).mono fun p _ => ⟨⟨p.1, p.2⟩, rfl, trivial⟩
theorem read_hood : Reader enc Tryz.prog w 22 (fun s : Sl Pt => [s.av encPt]) (fun s => s.l.length ≤ 9223372036854775807) :=
  (read_slice u22 (es := 2) (by kernel_rfl) (by decide) read_pt encPt_len (fun _ => rfl)).mono fun s hs => ⟨⟨s.1, none, s.2⟩, rfl, hs.1⟩
theorem flat_ints : ∀ l : List Int, (l.flatMap fun n => [AV.int .i64 n]) = l.map (.int .i64)
  | [] => rfl
  | a :: l => by rw [List.flatMap_cons, flat_ints l]; rfl
theorem read_nd : Reader enc Tryz.prog w 49 encNd (fun d => d.next.length ≤ 9223372036854775807) :=
  (read_two (fs := fields ty49.desc) (by kernel_rfl) (by kernel_rfl) (by kernel_rfl) (by kernel_rfl) (read_int u3) (read_slice u29 (es := 1) (by kernel_rfl) (by decide) (read_int u3) (fun _ => rfl) (fun _ => rfl))).mono
    fun p hp => ⟨⟨p.1, p.2.1, none, p.2.2⟩, by simp only [encNd, flat_ints]; rfl, hp.2.1⟩
theorem read_nodes : Reader enc Tryz.prog w 23 (fun s : Sl Nd => [s.av encNd]) (fun s => s.l.length ≤ 9223372036854775807 ∧ ∀ d ∈ s.l, d.next.length ≤ 9223372036854775807) :=
  (read_slice u23 (es := 2) (by kernel_rfl) (by decide) read_nd encNd_len (fun _ => rfl)).mono fun s hs => ⟨⟨s.1, none, s.2⟩, rfl, hs⟩
theorem read_tree : Reader enc Tryz.prog w 25 Tr.cells Tr.Wf :=
  (read_three (fs := fields ty25.desc) (by kernel_rfl) (by kernel_rfl) (by kernel_rfl) (by kernel_rfl) (read_int u3) read_hood read_nodes).mono
    fun p hp => ⟨⟨p.1, p.2.1, p.2.2⟩, rfl, ⟨i64_of hp.1, hp.2.1, hp.2.2.1, hp.2.2.2⟩⟩
end
theorem params4 : Tryz.f4.params = #[25] := by kernel_rfl
theorem u25 : ∃ fs, Tryz.prog.underlying 25 = some (.struct fs) := ⟨fields ty25.desc, by kernel_rfl⟩
theorem laidOut : laidOutB Tryz.prog = true := by kernel_rfl
theorem contract (H : Type) (enc : TypeId × Value → H) (W : World) (base : Nat) (args : Array Value) (ds gs : List (DataW H)) (before : List MemPlace)
    (hval : ∀ (j : Nat) t v, Tryz.f4.params[j]? = some t → args[j]? = some v → Value.okWide Tryz.prog W .any base t v)
    (hW : DataW.Whole enc Tryz.prog Tryz.f4.params.toList Rows.orphanBalancedSpec.vars false W args.toList ds gs before) :
    Calls Tryz.prog 4 args W fun e W' => ∃ v, e = .returned v ∧ Rows.orphanBalancedSpec.post enc Tryz.prog Tryz.f4 false true false false W args v W' := by
  have hW' := hW
  obtain ⟨p, q, hA, hV, rfl, hfz, hnd⟩ := hW
  obtain ⟨rfl, rfl⟩ := trodVars_none hV
  rw [params4] at hA hval
  obtain ⟨v0, vs0, d0, ds0, p0, q0, hargs, rfl, rfl, h0, r0⟩ := trodAll_cons hA
  obtain ⟨rfl, rfl, rfl⟩ := trodAll_nil r0
  obtain rfl : args = #[v0] := by cases args; simp_all
  obtain ⟨fs, hfs⟩ := u25
  obtain ⟨cs, rfl, _⟩ := okWide_struct hfs (hval 0 25 v0 rfl rfl)
  obtain ⟨n, hn⟩ := h0
  obtain ⟨t, hrel, hwf⟩ := read_tree _ _ _ hn
  refine ((card_ok t hwf AH.empty).2 φ0 W #[.agg cs] (hrel0 W) (fun g cs h => by cases h) ⟨_, [], rfl, ⟨cs, rfl, hrel⟩, rfl⟩).mono ?_
  rintro e W' ⟨y, φ', r, A', rfl, hy, _, hE, _, rfl⟩
  obtain rfl : y = .bool true := hy
  exact ⟨_, rfl, post_true hW' rfl rfl (by kernel_rfl) u4 laidOut (by rw [params4]; intro t ht; simp at ht; subst ht; exact ⟨by kernel_rfl, of_decide_eq_true (by kernel_rfl)⟩) hE⟩

/-! ## a world that fits -/
def litCells {H : Type} : DataW H → Array Value
  | .agg l => (l.map fun | .lit (.int k n) => Value.int k n | _ => undef).toArray
  | _ => #[]
def laidObj (d : DataW Unit) : Obj → Obj
  | .cells _ t frozen => .cells (litCells d) t frozen
  | o => o
noncomputable def laidWorld (os : Os) : World :=
  { World.holding Tryz.prog os ⟨#[], #[], []⟩ with heap := (((World.holding Tryz.prog os ⟨#[], #[], []⟩).heap.modify 0 (laidObj Rows.laid_internal_strconv_uint64pow10)).modify 1 (laidObj Rows.laid_math_bits_deBruijn32tab)).modify 2 (laidObj Rows.laid_math_bits_deBruijn64tab) }
noncomputable def arg0 : Array Value := #[.agg #[.int .i64 0, .slice none 0 0, .slice none 0 0]]
theorem laid_met (os : Os) : laidMet Tryz.prog Rows.orphanBalancedRow.laid ((laidWorld os).forCall (fun _ _ => 0) ⟨#[], arg0, []⟩).memory :=
  laidMet_of_run' 8 (by kernel_rfl) (by kernel_rfl)
theorem reads (os : Os) {H : Type} (enc : TypeId × Value → H) : ∃ places, DataW.whole enc Tryz.prog ((laidWorld os).forCall (fun _ _ => 0) ⟨#[], arg0, []⟩).memory Tryz.f4.params.toList Rows.orphanBalancedSpec.vars false arg0.toList 8 = some ([.agg [.lit (.int .i64 0), .nil, .nil]], [], places) :=
  ⟨[], by kernel_rfl⟩
theorem own : ownKnob Tryz.prog.godebug = none := by kernel_rfl
theorem lifted (os : Os) (started : os.Started) (H : Type) (enc : TypeId × Value → H) (F : Stop.Interp) :
    ReturnsInHanded {} Tryz.checked os 4 .any ((OpenSpec.ofChange Rows.orphanBalancedSpec).preRow enc Tryz.prog Tryz.f4 Rows.orphanBalancedRow.domain false Rows.orphanBalancedRow.laid) (((OpenSpec.ofChange Rows.orphanBalancedSpec).at F).post enc Tryz.prog Tryz.f4 false true false false) := by
  obtain ⟨places, hx⟩ := reads os enc
  refine returnsInHanded_of_row (C := Tryz.checked) (s := OpenSpec.ofChange Rows.orphanBalancedSpec) own started (by kernel_rfl) Tryz.func4
    (witness_row_at (enc := enc) (C := Tryz.checked) false (laidWorld os) arg0 rfl (by kernel_rfl) (by kernel_rfl) (by kernel_rfl)
      (OpenSpec.preRow_of_cond 8 hx (by kernel_rfl) (fun k hk => by cases hk) (by kernel_rfl) (laid_met os))) ?_
  intro W base args ds gs before hval hW _ _ _ hL _ _
  exact contract H enc W base args ds gs before hval hW
theorem said : Rows.OrphanBalancedSaid :=
  OpenClaim.holds_of_cond 4 Tryz.f4 rfl rfl rfl rfl rfl rfl rfl ⟨rfl, rfl, rfl, rfl, rfl⟩ rfl rfl rfl rfl rfl (by kernel_rfl) Tryz.func4 (by kernel_rfl)
    (of_decide_eq_true (by kernel_rfl)) (by unfold Func.isWrapper; first | (rw [if_pos (by decide +kernel)]; kernel_rfl) | (rw [if_neg (by decide +kernel)]; exact ⟨rfl, rfl⟩))
    (fun os started H enc _ F => by rw [OpenClaim.pre_eq_preRow]; exact lifted os started H enc F)
theorem plainArgs (f : FuncId) (fn : Func) (hf : Tryz.pinned.checked.prog.funcNamed "cellular/cellularlaw49.OrphanBalanced" = some f) (hfn : Tryz.pinned.checked.prog.funcs[f]? = some fn) :
    false = Tryz.pinned.checked.prog.looks [] ∧ ∀ (j : Nat) t, fn.params[j]? = some t → Tryz.pinned.checked.prog.wantsStandIn t = false := by
  obtain rfl : f = 4 := Option.some.inj ((show Tryz.prog.funcNamed "cellular/cellularlaw49.OrphanBalanced" = some 4 by kernel_rfl).symm.trans hf) |>.symm
  obtain rfl : fn = Tryz.f4 := (Option.some.inj (Tryz.func4.symm.trans hfn)).symm
  refine ⟨by kernel_rfl, fun j t ht => ?_⟩
  rw [params4] at ht
  obtain rfl : t = 25 := by simpa using Array.mem_of_getElem? ht
  exact (show Tryz.prog.wantsStandIn 25 = false by kernel_rfl)
/-- ORPHAN BALANCED: the card -/
theorem orphanBalanced_card : Rows.OrphanBalancedCardSaid :=
  Claim7.holds_tied_plain_at .later [] _ _ _ _ said (fun _ h => by cases h) (by kernel_rfl) (fun _ h => by cases h) orphanBalanced_row_tie rfl ⟨rfl, rfl⟩ (by kernel_rfl) rfl plainArgs (by kernel_rfl)
end Go.Am.Seat
namespace Go.Proofs.YtjdldndhbbkflaaGreatDoor
/-- the tied card of OrphanBalanced -/
theorem orphanBalanced_card : Rows.OrphanBalancedCardSaid := Go.Am.Seat.orphanBalanced_card
end Go.Proofs.YtjdldndhbbkflaaGreatDoor

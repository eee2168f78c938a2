/- A part of the proof about cellularlaw49.OrphanBalanced: lemmas only; what they say is theirs alone and no condition of the claim. -/
import Derived.Test.YtjdldndhbbkflaaGreatDoorSaC
set_option autoImplicit false
set_option linter.unusedVariables false
set_option linter.unusedSimpArgs false
set_option maxRecDepth 100000
noncomputable section
namespace Go.Am.Seat
open Go Go.Am Go.Proofs
structure Nd where
  level : Int
  nl : Bool
  cap : Option Nat
  next : List Int
def encNd (d : Nd) : List AV := [.int .i64 d.level, .vec d.nl d.next.length d.cap (d.next.map (.int .i64))]
theorem encNd_len (d : Nd) : (encNd d).length = 2 := rfl
theorem noBlks_nds (l : List Nd) : noBlks (l.flatMap encNd) = true := noBlks_flat (f := encNd) (fun d => by simp [encNd, noBlks, noBlk, noBlks_ints]) l
theorem noBlks_pts (l : List Pt) : noBlks (l.flatMap encPt) = true := noBlks_flat (f := encPt) (fun _ => rfl) l
structure Tr where
  states : Int
  hood : Sl Pt
  nodes : Sl Nd
def Tr.cells (t : Tr) : List AV := [.int .i64 t.states, t.hood.av encPt, t.nodes.av encNd]
def Tr.av (t : Tr) : AV := .agg t.cells
/-- lengths as memory has them -/
structure Tr.Wf (t : Tr) : Prop where
  states : -9223372036854775808 ≤ t.states ∧ t.states ≤ 9223372036854775807
  hood : t.hood.l.length ≤ 9223372036854775807
  nodes : t.nodes.l.length ≤ 9223372036854775807
  next : ∀ d ∈ t.nodes.l, d.next.length ≤ 9223372036854775807
theorem Tr.noBlks (t : Tr) : noBlks [t.av] = true := by simp [Tr.av, Tr.cells, Sl.av, Am.noBlks, noBlk, noBlks_pts, noBlks_nds]
def FewOk (t : Tr) : Prop := t.hood.l.length ≤ 40 ∧ t.nodes.l.length ≤ 400 ∧ ∀ (i : Nat) (d : Nd), t.nodes.l[i]? = some d → d.next.length ≤ 20
theorem few_ok (t : Tr) (hw : t.Wf) : PureR E.C 5 [t.av] (fun r => r = .bool (tb (FewOk t))) := by
  refine PureR.of_empty plain t.noBlks ?_
  obtain ⟨st, ⟨hnl, hcap, hood⟩, ⟨nnl, ncap, nodes⟩⟩ := t
  have hw1 := hw.hood; have hw2 := hw.nodes; have hw3 := hw.next
  dsimp only [Tr.av, Tr.cells, Sl.av] at hw1 hw2 hw3 ⊢
  refine ACall.of_body E_ok.ok Tryz.func5 rfl (by kernel_rfl) ?_
  refine AWp.seq ?_
  refine AWp.region E_ok.ok ?_
  refine s_new rfl rfl (nv_box rfl rfl) ?_
  refine s_pure rfl rfl (pv_asg rfl) ?_
  refine s_nil ?_
  refine AWp.seq ?_
  refine AWp.seq ?_
  refine AWp.region E_ok.ok ?_
  first | refine s_pure rfl rfl (pv_fld T25 rfl rfl T22 (by decide) rfl) ?_ | refine s_pure rfl rfl (pv_fldi T25 rfl rfl T22 (by decide) rfl) ?_
  first | refine s_imm rfl rfl (rv_loadi rfl (part_sc T22 rfl rfl)) ?_ | refine s_read rfl rfl (rv_load rfl) (rfl) (part_sc T22 rfl rfl) ?_
  first | refine s_pure rfl rfl (pv_len T22 rfl rfl) ?_ | refine s_pure rfl rfl (pv_len_sl T22 rfl rfl) ?_
  refine s_splitP rfl rfl (pv_int rfl rfl rfl) decide_eq_true_iff ?_ ?_
  · intro h1x3
    refine s_pure rfl rfl (pv_mov rfl) ?_
    refine s_skip rfl rfl ?_
    refine s_skip rfl rfl ?_
    refine s_skip rfl rfl ?_
    refine s_skip rfl rfl ?_
    first | refine s_pure rfl rfl (pv_pickT rfl rfl) ?_ | refine s_pure rfl rfl (pv_pickF rfl rfl) ?_
    refine s_nil ?_
    refine AWp.cond (b := true) rfl (fun _ => ?_) (fun h => by cases h)
    refine AWp.seq ?_
    refine AWp.region E_ok.ok ?_
    refine s_pure rfl rfl (pv_asg rfl) ?_
    refine s_nil ?_
    refine AWp.ret ?_
    refine ⟨_, rfl, 1, _, rfl, ?_⟩
    show AV.bool false = _
    rw [tb_false]
    rintro ⟨H1, H2, H3⟩
    first | (dsimp only at H1 H2; omega) | (have := H3 k d hd; omega)
  · intro h1x3
    refine s_pure rfl rfl (pv_mov rfl) ?_
    first | refine s_pure rfl rfl (pv_fld T25 rfl rfl T23 (by decide) rfl) ?_ | refine s_pure rfl rfl (pv_fldi T25 rfl rfl T23 (by decide) rfl) ?_
    first | refine s_imm rfl rfl (rv_loadi rfl (part_sc T23 rfl rfl)) ?_ | refine s_read rfl rfl (rv_load rfl) (rfl) (part_sc T23 rfl rfl) ?_
    first | refine s_pure rfl rfl (pv_len T23 rfl rfl) ?_ | refine s_pure rfl rfl (pv_len_sl T23 rfl rfl) ?_
    refine s_splitP rfl rfl (pv_int rfl rfl rfl) decide_eq_true_iff ?_ ?_
    · intro h1x8
      first | refine s_pure rfl rfl (pv_pickT rfl rfl) ?_ | refine s_pure rfl rfl (pv_pickF rfl rfl) ?_
      refine s_nil ?_
      refine AWp.cond (b := true) rfl (fun _ => ?_) (fun h => by cases h)
      refine AWp.seq ?_
      refine AWp.region E_ok.ok ?_
      refine s_pure rfl rfl (pv_asg rfl) ?_
      refine s_nil ?_
      refine AWp.ret ?_
      refine ⟨_, rfl, 1, _, rfl, ?_⟩
      show AV.bool false = _
      rw [tb_false]
      rintro ⟨H1, H2, H3⟩
      first | (dsimp only at H1 H2; omega) | (have := H3 k d hd; omega)
    · intro h1x8
      first | refine s_pure rfl rfl (pv_pickT rfl rfl) ?_ | refine s_pure rfl rfl (pv_pickF rfl rfl) ?_
      refine s_nil ?_
      refine AWp.cond (b := false) rfl (fun h => by cases h) (fun _ => ?_)
      refine AWp.skip ?_
      refine AWp.seq ?_
      refine AWp.seq ?_
      refine AWp.region E_ok.ok ?_
      first | refine s_pure rfl rfl (pv_fld T25 rfl rfl T23 (by decide) rfl) ?_ | refine s_pure rfl rfl (pv_fldi T25 rfl rfl T23 (by decide) rfl) ?_
      first | refine s_imm rfl rfl (rv_loadi rfl (part_sc T23 rfl rfl)) ?_ | refine s_read rfl rfl (rv_load rfl) (rfl) (part_sc T23 rfl rfl) ?_
      first | refine s_pure rfl rfl (pv_len T23 rfl rfl) ?_ | refine s_pure rfl rfl (pv_len_sl T23 rfl rfl) ?_
      refine s_pure rfl rfl (pv_mov rfl) ?_
      refine s_nil ?_
      refine AWp.block ?_
      refine AWp.loop (σ := {s : Nat × AH // s.1 ≤ nodes.length ∧ (∀ (i : Nat) (d : Nd), i < s.1 → nodes[i]? = some d → d.next.length ≤ 20) ∧ s.2.get 0 = some (.cells [.int .i64 st, .vec hnl hood.length hcap (hood.flatMap encPt), .vec nnl nodes.length ncap (nodes.flatMap encNd)]) ∧ 0 < s.2.next})
        (fun s => frL 29 [(1, .ptr 0 0), (16, .int .i64 nodes.length), (17, .int .i64 s.1.1)]) (fun s => s.1.2) (fun s => nodes.length - s.1.1) ⟨(0, _), by simp, fun k p h => by simp at h, rfl, Nat.zero_lt_one⟩ (Weak.frL rfl ⟨rfl, rfl, rfl, trivial⟩) ?_
      rintro ⟨⟨k, A⟩, hk, hinv, h0, hn0⟩
      dsimp only at hk hinv h0 hn0 ⊢
      refine AWp.seq ?_
      refine AWp.region E_ok.ok ?_
      refine s_splitP rfl rfl (pv_int rfl rfl rfl) decide_eq_true_iff ?_ ?_
      · intro h4x0
        have hlt : k < nodes.length := by omega
        obtain ⟨d, hd⟩ := get_some hlt
        have hkk : (k : Int) = k := rfl
        refine s_nil ?_
        refine AWp.seq ?_
        refine AWp.cond (b := true) rfl (fun _ => ?_) (fun h => by cases h)
        refine AWp.skip ?_
        refine AWp.seq ?_
        refine AWp.block ?_
        refine AWp.seq ?_
        refine AWp.region E_ok.ok ?_
        refine s_pure rfl rfl (pv_mov rfl) ?_
        refine s_pure rfl rfl (pv_asg rfl) ?_
        refine s_nil ?_
        refine AWp.seq ?_
        refine AWp.region E_ok.ok ?_
        first | refine s_pure rfl rfl (pv_fld T25 rfl rfl T23 (by decide) rfl) ?_ | refine s_pure rfl rfl (pv_fldi T25 rfl rfl T23 (by decide) rfl) ?_
        first | refine s_imm rfl rfl (rv_loadi rfl (part_sc T23 rfl rfl)) ?_ | refine s_read rfl rfl (rv_load rfl) h0 (part_sc T23 rfl rfl) ?_
        refine s_pure rfl rfl (pv_mov rfl) ?_
        first | refine s_pure rfl rfl (pv_idx T23 rfl T49 rfl rfl (by omega) (by omega) (drop_encI encNd_len hkk hd)) ?_ | refine s_pure rfl rfl (pv_idx_sl T23 rfl T49 rfl rfl (by omega) (by omega)) ?_
        first | refine s_pure rfl rfl (pv_fld T49 rfl rfl T29 (by decide) rfl) ?_ | refine s_pure rfl rfl (pv_fldi T49 rfl rfl T29 (by decide) rfl) ?_
        first | refine s_imm rfl rfl (rv_loadi rfl (part_sc T29 rfl rfl)) ?_ | refine s_read rfl rfl (rv_load rfl) h0 (part_sc T29 rfl rfl) ?_
        first | refine s_pure rfl rfl (pv_len T29 rfl rfl) ?_ | refine s_pure rfl rfl (pv_len_sl T29 rfl rfl) ?_
        refine s_splitP rfl rfl (pv_int rfl rfl rfl) decide_eq_true_iff ?_ ?_
        · intro h6x7
          refine s_nil ?_
          refine AWp.cond (b := true) rfl (fun _ => ?_) (fun h => by cases h)
          refine AWp.seq ?_
          refine AWp.region E_ok.ok ?_
          refine s_pure rfl rfl (pv_asg rfl) ?_
          refine s_nil ?_
          refine AWp.ret ?_
          refine ⟨_, rfl, 1, _, rfl, ?_⟩
          show AV.bool false = _
          rw [tb_false]
          rintro ⟨H1, H2, H3⟩
          first | (dsimp only at H1 H2; omega) | (have := H3 k d hd; omega)
        · intro h6x7
          refine s_nil ?_
          refine AWp.cond (b := false) rfl (fun h => by cases h) (fun _ => ?_)
          refine AWp.skip ?_
          refine AWp.region E_ok.ok ?_
          refine s_pure rfl rfl (pv_add rfl rfl (by omega) (by omega)) ?_
          refine s_pure rfl rfl (pv_mov rfl) ?_
          refine s_nil ?_
          refine ⟨⟨(k + 1, _), by omega, fun j e hj he => ?_, h0, hn0⟩, by dsimp only; omega, Weak.frL rfl ⟨rfl, rfl, rfl, trivial⟩⟩
          by_cases e' : j = k
          · subst e'; rw [hd] at he; cases he; omega
          · exact hinv j e (by dsimp only at hj; omega) he
      · intro h4x0
        refine s_nil ?_
        refine AWp.seq ?_
        refine AWp.cond (b := false) rfl (fun h => by cases h) (fun _ => ?_)
        refine AWp.exit ?_
        refine AWp.seq ?_
        refine AWp.region E_ok.ok ?_
        refine s_pure rfl rfl (pv_asg rfl) ?_
        refine s_nil ?_
        refine AWp.ret ?_
        refine ⟨_, rfl, 1, _, rfl, ?_⟩
        show AV.bool true = _
        rw [tb_true]
        exact ⟨by dsimp only; omega, by dsimp only; omega, fun j p h => hinv j p (by have := (List.getElem?_eq_some_iff.1 h).1; dsimp only at this; omega) h⟩
/-- what a node of a valid tree is -/
def NodeOk (t : Tr) (i : Nat) (x : Nd) : Prop := 1 ≤ x.level ∧ x.level ≤ t.hood.l.length ∧ (x.next.length : Int) = t.states ∧
  ∀ (s : Nat) (k : Int), x.next[s]? = some k → 0 ≤ k ∧ (x.level = 1 → k < t.states) ∧ (1 < x.level → k < i ∧ ∀ y, t.nodes.l[k.toNat]? = some y → y.level = x.level - 1)
structure TreeOk (t : Tr) : Prop where
  states : 2 ≤ t.states ∧ t.states ≤ 8
  hood : HoodOk t.hood.l
  size : 1 ≤ t.nodes.l.length ∧ t.nodes.l.length ≤ 4096
  root : ∀ x, t.nodes.l[t.nodes.l.length - 1]? = some x → x.level = t.hood.l.length
  node : ∀ (i : Nat) (x : Nd), t.nodes.l[i]? = some x → NodeOk t i x
/-- nodes before i are as they must be -/
def NodesPre (t : Tr) (n : Nat) : Prop := ∀ (i : Nat) (x : Nd), i < n → t.nodes.l[i]? = some x → NodeOk t i x
theorem NodesPre.step {t : Tr} {k : Nat} {x : Nd} (h : NodesPre t k) (hx : t.nodes.l[k]? = some x) (hk : NodeOk t k x) : NodesPre t (k + 1) := by
  intro j y hj hy
  by_cases e : j = k
  · subst e; rw [hx] at hy; cases hy; exact hk
  · exact h j y (by omega) hy
def NextPre (t : Tr) (i : Nat) (x : Nd) (n : Nat) : Prop := ∀ (s : Nat) (k : Int), s < n → x.next[s]? = some k → 0 ≤ k ∧ (x.level = 1 → k < t.states) ∧ (1 < x.level → k < i ∧ ∀ y, t.nodes.l[k.toNat]? = some y → y.level = x.level - 1)
theorem NextPre.step {t : Tr} {i : Nat} {x : Nd} {s : Nat} {k : Int} (h : NextPre t i x s) (hk : x.next[s]? = some k) (h2 : 0 ≤ k ∧ (x.level = 1 → k < t.states) ∧ (1 < x.level → k < i ∧ ∀ y, t.nodes.l[k.toNat]? = some y → y.level = x.level - 1)) : NextPre t i x (s + 1) := by
  intro j y hj hy
  by_cases e : j = s
  · subst e; rw [hk] at hy; cases hy; exact h2
  · exact h j y (by omega) hy

theorem right_ok (t : Tr) (hw : t.Wf) : PureR E.C 28 [t.av] (fun r => r = .bool (tb (TreeOk t))) := by
  refine PureR.of_empty plain t.noBlks ?_
  obtain ⟨st, ⟨hnl, hcap, hood⟩, ⟨nnl, ncap, nodes⟩⟩ := t
  have hw0 := hw.states; have hw1 := hw.hood; have hw2 := hw.nodes; have hw3 := hw.next
  dsimp only [Tr.av, Tr.cells, Sl.av] at hw0 hw1 hw2 hw3 ⊢
  refine ACall.of_body E_ok.ok Tryz.func28 rfl (by kernel_rfl) ?_
  refine AWp.seq ?_
  refine AWp.region E_ok.ok ?_
  refine s_new rfl rfl (nv_box rfl rfl) ?_
  refine s_pure rfl rfl (pv_asg rfl) ?_
  refine s_nil ?_
  refine AWp.seq ?_
  refine AWp.region E_ok.ok ?_
  first | refine s_pure rfl rfl (pv_fld T25 rfl rfl T23 (by decide) rfl) ?_ | refine s_pure rfl rfl (pv_fldi T25 rfl rfl T23 (by decide) rfl) ?_
  first | refine s_imm rfl rfl (rv_loadi rfl (part_sc T23 rfl rfl)) ?_ | refine s_read rfl rfl (rv_load rfl) (rfl) (part_sc T23 rfl rfl) ?_
  first | refine s_pure rfl rfl (pv_len T23 rfl rfl) ?_ | refine s_pure rfl rfl (pv_len_sl T23 rfl rfl) ?_
  refine s_pure rfl rfl (pv_asg rfl) ?_
  refine s_nil ?_
  refine AWp.seq ?_
  refine AWp.seq ?_
  refine AWp.drawq E_ok.ok (ord := [0, 1, 2, 3, 4, 5, 6, 7, 8, 9, 10, 11, 12, 13, 14, 15, 16, 17, 18, 19, 20, 21, 22, 23, 24, 25, 26, 27, 28, 29, 30, 31, 32, 33, 34]) (by kernel_rfl) ?_
  first | refine q_pure rfl rfl rfl rfl (pv_fld T25 rfl rfl T3 (by decide) rfl) ?_ | refine q_pure rfl rfl rfl rfl (pv_fldi T25 rfl rfl T3 (by decide) rfl) ?_
  first | refine q_imm rfl rfl rfl rfl (rv_loadi rfl (part_sc T3 rfl rfl)) ?_ | refine q_read rfl rfl rfl rfl (rv_load rfl) (rfl) (part_sc T3 rfl rfl) ?_
  refine q_splitP rfl rfl rfl rfl (pv_int rfl rfl rfl) decide_eq_true_iff ?_ ?_
  · intro h2x2
    refine q_pure rfl rfl rfl rfl (pv_mov rfl) ?_
    refine q_skip rfl rfl rfl ?_
    refine q_skip rfl rfl rfl ?_
    refine q_skip rfl rfl rfl ?_
    first | refine q_pure rfl rfl rfl rfl (pv_pickT rfl rfl) ?_ | refine q_pure rfl rfl rfl rfl (pv_pickF rfl rfl) ?_
    refine q_pure rfl rfl rfl rfl (pv_mov rfl) ?_
    refine q_skip rfl rfl rfl ?_
    refine q_skip rfl rfl rfl ?_
    refine q_skip rfl rfl rfl ?_
    refine q_skip rfl rfl rfl ?_
    first | refine q_pure rfl rfl rfl rfl (pv_pickT rfl rfl) ?_ | refine q_pure rfl rfl rfl rfl (pv_pickF rfl rfl) ?_
    refine q_pure rfl rfl rfl rfl (pv_mov rfl) ?_
    refine q_skip rfl rfl rfl ?_
    refine q_skip rfl rfl rfl ?_
    first | refine q_pure rfl rfl rfl rfl (pv_pickT rfl rfl) ?_ | refine q_pure rfl rfl rfl rfl (pv_pickF rfl rfl) ?_
    refine q_pure rfl rfl rfl rfl (pv_mov rfl) ?_
    refine q_skip rfl rfl rfl ?_
    refine q_skip rfl rfl rfl ?_
    first | refine q_pure rfl rfl rfl rfl (pv_pickT rfl rfl) ?_ | refine q_pure rfl rfl rfl rfl (pv_pickF rfl rfl) ?_
    refine q_pure rfl rfl rfl rfl (pv_mov rfl) ?_
    refine q_skip rfl rfl rfl ?_
    refine q_skip rfl rfl rfl ?_
    refine q_skip rfl rfl rfl ?_
    refine q_skip rfl rfl rfl ?_
    refine q_skip rfl rfl rfl ?_
    refine q_skip rfl rfl rfl ?_
    refine q_skip rfl rfl rfl ?_
    refine q_skip rfl rfl rfl ?_
    refine q_skip rfl rfl rfl ?_
    refine q_skip rfl rfl rfl ?_
    refine q_skip rfl rfl rfl ?_
    first | refine q_pure rfl rfl rfl rfl (pv_pickT rfl rfl) ?_ | refine q_pure rfl rfl rfl rfl (pv_pickF rfl rfl) ?_
    first | refine q_nil0 ?_ | refine q_nil ?_
    refine AWp.cond (b := true) rfl (fun _ => ?_) (fun h => by cases h)
    refine AWp.seq ?_
    refine AWp.region E_ok.ok ?_
    refine s_pure rfl rfl (pv_asg rfl) ?_
    refine s_nil ?_
    refine AWp.ret ?_
    refine ⟨_, rfl, 1, _, rfl, ?_⟩
    show AV.bool false = _
    rw [tb_false]
    intro H
    have H1 := H.states; have H2 := H.size
    dsimp only at H1 H2
    first
      | omega
      | exact absurd (hb.symm.trans (tb_iff.2 H.hood)) Bool.false_ne_true
      | (have H3 := H.root z hz; dsimp only at H3; omega)
      | (obtain ⟨N1, N2, N3, N4⟩ := H.node k x hx; dsimp only at N1 N2 N3; first | omega | (obtain ⟨M1, M2, M3⟩ := N4 j m hm; dsimp only at M1 M2 M3; first | omega | (have := M3 (by omega); first | omega | (have := this.2 y hy; omega))))
  · intro h2x2
    refine q_pure rfl rfl rfl rfl (pv_mov rfl) ?_
    first | refine q_pure rfl rfl rfl rfl (pv_fld T25 rfl rfl T3 (by decide) rfl) ?_ | refine q_pure rfl rfl rfl rfl (pv_fldi T25 rfl rfl T3 (by decide) rfl) ?_
    first | refine q_imm rfl rfl rfl rfl (rv_loadi rfl (part_sc T3 rfl rfl)) ?_ | refine q_read rfl rfl rfl rfl (rv_load rfl) (rfl) (part_sc T3 rfl rfl) ?_
    refine q_splitP rfl rfl rfl rfl (pv_int rfl rfl rfl) decide_eq_true_iff ?_ ?_
    · intro h2x6
      first | refine q_pure rfl rfl rfl rfl (pv_pickT rfl rfl) ?_ | refine q_pure rfl rfl rfl rfl (pv_pickF rfl rfl) ?_
      refine q_pure rfl rfl rfl rfl (pv_mov rfl) ?_
      refine q_skip rfl rfl rfl ?_
      refine q_skip rfl rfl rfl ?_
      refine q_skip rfl rfl rfl ?_
      refine q_skip rfl rfl rfl ?_
      first | refine q_pure rfl rfl rfl rfl (pv_pickT rfl rfl) ?_ | refine q_pure rfl rfl rfl rfl (pv_pickF rfl rfl) ?_
      refine q_pure rfl rfl rfl rfl (pv_mov rfl) ?_
      refine q_skip rfl rfl rfl ?_
      refine q_skip rfl rfl rfl ?_
      first | refine q_pure rfl rfl rfl rfl (pv_pickT rfl rfl) ?_ | refine q_pure rfl rfl rfl rfl (pv_pickF rfl rfl) ?_
      refine q_pure rfl rfl rfl rfl (pv_mov rfl) ?_
      refine q_skip rfl rfl rfl ?_
      refine q_skip rfl rfl rfl ?_
      first | refine q_pure rfl rfl rfl rfl (pv_pickT rfl rfl) ?_ | refine q_pure rfl rfl rfl rfl (pv_pickF rfl rfl) ?_
      refine q_pure rfl rfl rfl rfl (pv_mov rfl) ?_
      refine q_skip rfl rfl rfl ?_
      refine q_skip rfl rfl rfl ?_
      refine q_skip rfl rfl rfl ?_
      refine q_skip rfl rfl rfl ?_
      refine q_skip rfl rfl rfl ?_
      refine q_skip rfl rfl rfl ?_
      refine q_skip rfl rfl rfl ?_
      refine q_skip rfl rfl rfl ?_
      refine q_skip rfl rfl rfl ?_
      refine q_skip rfl rfl rfl ?_
      refine q_skip rfl rfl rfl ?_
      first | refine q_pure rfl rfl rfl rfl (pv_pickT rfl rfl) ?_ | refine q_pure rfl rfl rfl rfl (pv_pickF rfl rfl) ?_
      first | refine q_nil0 ?_ | refine q_nil ?_
      refine AWp.cond (b := true) rfl (fun _ => ?_) (fun h => by cases h)
      refine AWp.seq ?_
      refine AWp.region E_ok.ok ?_
      refine s_pure rfl rfl (pv_asg rfl) ?_
      refine s_nil ?_
      refine AWp.ret ?_
      refine ⟨_, rfl, 1, _, rfl, ?_⟩
      show AV.bool false = _
      rw [tb_false]
      intro H
      have H1 := H.states; have H2 := H.size
      dsimp only at H1 H2
      first
        | omega
        | exact absurd (hb.symm.trans (tb_iff.2 H.hood)) Bool.false_ne_true
        | (have H3 := H.root z hz; dsimp only at H3; omega)
        | (obtain ⟨N1, N2, N3, N4⟩ := H.node k x hx; dsimp only at N1 N2 N3; first | omega | (obtain ⟨M1, M2, M3⟩ := N4 j m hm; dsimp only at M1 M2 M3; first | omega | (have := M3 (by omega); first | omega | (have := this.2 y hy; omega))))
    · intro h2x6
      first | refine q_pure rfl rfl rfl rfl (pv_pickT rfl rfl) ?_ | refine q_pure rfl rfl rfl rfl (pv_pickF rfl rfl) ?_
      refine q_pure rfl rfl rfl rfl (pv_mov rfl) ?_
      first | refine q_pure rfl rfl rfl rfl (pv_fld T25 rfl rfl T22 (by decide) rfl) ?_ | refine q_pure rfl rfl rfl rfl (pv_fldi T25 rfl rfl T22 (by decide) rfl) ?_
      first | refine q_imm rfl rfl rfl rfl (rv_loadi rfl (part_sc T22 rfl rfl)) ?_ | refine q_read rfl rfl rfl rfl (rv_load rfl) (rfl) (part_sc T22 rfl rfl) ?_
      refine q_callp rfl rfl rfl rfl rfl (hood_ok ⟨hnl, hcap, hood⟩ hw1) ?_
      intro r hr
      rcases bool_split hr with ⟨rfl, hb⟩ | ⟨rfl, hb⟩
      · skip
        refine q_pure rfl rfl rfl rfl (pv_un rfl rfl) ?_
        first | refine q_pure rfl rfl rfl rfl (pv_pickT rfl rfl) ?_ | refine q_pure rfl rfl rfl rfl (pv_pickF rfl rfl) ?_
        refine q_pure rfl rfl rfl rfl (pv_mov rfl) ?_
        refine q_pure rfl rfl rfl rfl (pv_mov rfl) ?_
        refine q_splitP rfl rfl rfl rfl (pv_int rfl rfl rfl) decide_eq_true_iff ?_ ?_
        · intro h2x16
          first | refine q_pure rfl rfl rfl rfl (pv_pickT rfl rfl) ?_ | refine q_pure rfl rfl rfl rfl (pv_pickF rfl rfl) ?_
          refine q_pure rfl rfl rfl rfl (pv_mov rfl) ?_
          refine q_skip rfl rfl rfl ?_
          refine q_skip rfl rfl rfl ?_
          first | refine q_pure rfl rfl rfl rfl (pv_pickT rfl rfl) ?_ | refine q_pure rfl rfl rfl rfl (pv_pickF rfl rfl) ?_
          refine q_pure rfl rfl rfl rfl (pv_mov rfl) ?_
          refine q_skip rfl rfl rfl ?_
          refine q_skip rfl rfl rfl ?_
          refine q_skip rfl rfl rfl ?_
          refine q_skip rfl rfl rfl ?_
          refine q_skip rfl rfl rfl ?_
          refine q_skip rfl rfl rfl ?_
          refine q_skip rfl rfl rfl ?_
          refine q_skip rfl rfl rfl ?_
          refine q_skip rfl rfl rfl ?_
          refine q_skip rfl rfl rfl ?_
          refine q_skip rfl rfl rfl ?_
          first | refine q_pure rfl rfl rfl rfl (pv_pickT rfl rfl) ?_ | refine q_pure rfl rfl rfl rfl (pv_pickF rfl rfl) ?_
          first | refine q_nil0 ?_ | refine q_nil ?_
          refine AWp.cond (b := true) rfl (fun _ => ?_) (fun h => by cases h)
          refine AWp.seq ?_
          refine AWp.region E_ok.ok ?_
          refine s_pure rfl rfl (pv_asg rfl) ?_
          refine s_nil ?_
          refine AWp.ret ?_
          refine ⟨_, rfl, 1, _, rfl, ?_⟩
          show AV.bool false = _
          rw [tb_false]
          intro H
          have H1 := H.states; have H2 := H.size
          dsimp only at H1 H2
          first
            | omega
            | exact absurd (hb.symm.trans (tb_iff.2 H.hood)) Bool.false_ne_true
            | (have H3 := H.root z hz; dsimp only at H3; omega)
            | (obtain ⟨N1, N2, N3, N4⟩ := H.node k x hx; dsimp only at N1 N2 N3; first | omega | (obtain ⟨M1, M2, M3⟩ := N4 j m hm; dsimp only at M1 M2 M3; first | omega | (have := M3 (by omega); first | omega | (have := this.2 y hy; omega))))
        · intro h2x16
          first | refine q_pure rfl rfl rfl rfl (pv_pickT rfl rfl) ?_ | refine q_pure rfl rfl rfl rfl (pv_pickF rfl rfl) ?_
          refine q_pure rfl rfl rfl rfl (pv_mov rfl) ?_
          refine q_pure rfl rfl rfl rfl (pv_mov rfl) ?_
          refine q_splitP rfl rfl rfl rfl (pv_int rfl rfl rfl) decide_eq_true_iff ?_ ?_
          · intro h2x20
            first | refine q_pure rfl rfl rfl rfl (pv_pickT rfl rfl) ?_ | refine q_pure rfl rfl rfl rfl (pv_pickF rfl rfl) ?_
            refine q_pure rfl rfl rfl rfl (pv_mov rfl) ?_
            refine q_skip rfl rfl rfl ?_
            refine q_skip rfl rfl rfl ?_
            refine q_skip rfl rfl rfl ?_
            refine q_skip rfl rfl rfl ?_
            refine q_skip rfl rfl rfl ?_
            refine q_skip rfl rfl rfl ?_
            refine q_skip rfl rfl rfl ?_
            refine q_skip rfl rfl rfl ?_
            refine q_skip rfl rfl rfl ?_
            refine q_skip rfl rfl rfl ?_
            refine q_skip rfl rfl rfl ?_
            first | refine q_pure rfl rfl rfl rfl (pv_pickT rfl rfl) ?_ | refine q_pure rfl rfl rfl rfl (pv_pickF rfl rfl) ?_
            first | refine q_nil0 ?_ | refine q_nil ?_
            refine AWp.cond (b := true) rfl (fun _ => ?_) (fun h => by cases h)
            refine AWp.seq ?_
            refine AWp.region E_ok.ok ?_
            refine s_pure rfl rfl (pv_asg rfl) ?_
            refine s_nil ?_
            refine AWp.ret ?_
            refine ⟨_, rfl, 1, _, rfl, ?_⟩
            show AV.bool false = _
            rw [tb_false]
            intro H
            have H1 := H.states; have H2 := H.size
            dsimp only at H1 H2
            first
              | omega
              | exact absurd (hb.symm.trans (tb_iff.2 H.hood)) Bool.false_ne_true
              | (have H3 := H.root z hz; dsimp only at H3; omega)
              | (obtain ⟨N1, N2, N3, N4⟩ := H.node k x hx; dsimp only at N1 N2 N3; first | omega | (obtain ⟨M1, M2, M3⟩ := N4 j m hm; dsimp only at M1 M2 M3; first | omega | (have := M3 (by omega); first | omega | (have := this.2 y hy; omega))))
          · intro h2x20
            obtain ⟨z, hz⟩ := get_some (show nodes.length - 1 < nodes.length by omega)
            have hzz : (nodes.length : Int) - 1 = (nodes.length - 1 : Nat) := by omega
            first | refine q_pure rfl rfl rfl rfl (pv_pickT rfl rfl) ?_ | refine q_pure rfl rfl rfl rfl (pv_pickF rfl rfl) ?_
            refine q_pure rfl rfl rfl rfl (pv_mov rfl) ?_
            first | refine q_pure rfl rfl rfl rfl (pv_fld T25 rfl rfl T23 (by decide) rfl) ?_ | refine q_pure rfl rfl rfl rfl (pv_fldi T25 rfl rfl T23 (by decide) rfl) ?_
            first | refine q_imm rfl rfl rfl rfl (rv_loadi rfl (part_sc T23 rfl rfl)) ?_ | refine q_read rfl rfl rfl rfl (rv_load rfl) (rfl) (part_sc T23 rfl rfl) ?_
            refine q_pure rfl rfl rfl rfl (pv_mov rfl) ?_
            refine q_pure rfl rfl rfl rfl (pv_sub rfl rfl (by omega) (by omega)) ?_
            first | refine q_pure rfl rfl rfl rfl (pv_idx T23 rfl T49 rfl rfl (by omega) (by omega) (drop_encI encNd_len hzz hz)) ?_ | refine q_pure rfl rfl rfl rfl (pv_idx_sl T23 rfl T49 rfl rfl (by omega) (by omega)) ?_
            first | refine q_pure rfl rfl rfl rfl (pv_fld T49 rfl rfl T3 (by decide) rfl) ?_ | refine q_pure rfl rfl rfl rfl (pv_fldi T49 rfl rfl T3 (by decide) rfl) ?_
            first | refine q_imm rfl rfl rfl rfl (rv_loadi rfl (part_sc T3 rfl rfl)) ?_ | refine q_read rfl rfl rfl rfl (rv_load rfl) (rfl) (part_sc T3 rfl rfl) ?_
            first | refine q_pure rfl rfl rfl rfl (pv_fld T25 rfl rfl T22 (by decide) rfl) ?_ | refine q_pure rfl rfl rfl rfl (pv_fldi T25 rfl rfl T22 (by decide) rfl) ?_
            first | refine q_imm rfl rfl rfl rfl (rv_loadi rfl (part_sc T22 rfl rfl)) ?_ | refine q_read rfl rfl rfl rfl (rv_load rfl) (rfl) (part_sc T22 rfl rfl) ?_
            first | refine q_pure rfl rfl rfl rfl (pv_len T22 rfl rfl) ?_ | refine q_pure rfl rfl rfl rfl (pv_len_sl T22 rfl rfl) ?_
            refine q_splitP rfl rfl rfl rfl (pv_int rfl rfl rfl) bne_iff_ne ?_ ?_
            · intro h2x33
              first | refine q_pure rfl rfl rfl rfl (pv_pickT rfl rfl) ?_ | refine q_pure rfl rfl rfl rfl (pv_pickF rfl rfl) ?_
              first | refine q_nil0 ?_ | refine q_nil ?_
              refine AWp.cond (b := true) rfl (fun _ => ?_) (fun h => by cases h)
              refine AWp.seq ?_
              refine AWp.region E_ok.ok ?_
              refine s_pure rfl rfl (pv_asg rfl) ?_
              refine s_nil ?_
              refine AWp.ret ?_
              refine ⟨_, rfl, 1, _, rfl, ?_⟩
              show AV.bool false = _
              rw [tb_false]
              intro H
              have H1 := H.states; have H2 := H.size
              dsimp only at H1 H2
              first
                | omega
                | exact absurd (hb.symm.trans (tb_iff.2 H.hood)) Bool.false_ne_true
                | (have H3 := H.root z hz; dsimp only at H3; omega)
                | (obtain ⟨N1, N2, N3, N4⟩ := H.node k x hx; dsimp only at N1 N2 N3; first | omega | (obtain ⟨M1, M2, M3⟩ := N4 j m hm; dsimp only at M1 M2 M3; first | omega | (have := M3 (by omega); first | omega | (have := this.2 y hy; omega))))
            · intro h2x33
              first | refine q_pure rfl rfl rfl rfl (pv_pickT rfl rfl) ?_ | refine q_pure rfl rfl rfl rfl (pv_pickF rfl rfl) ?_
              first | refine q_nil0 ?_ | refine q_nil ?_
              refine AWp.cond (b := false) rfl (fun h => by cases h) (fun _ => ?_)
              refine AWp.skip ?_
              refine AWp.seq ?_
              refine AWp.seq ?_
              refine AWp.region E_ok.ok ?_
              first | refine s_pure rfl rfl (pv_fld T25 rfl rfl T23 (by decide) rfl) ?_ | refine s_pure rfl rfl (pv_fldi T25 rfl rfl T23 (by decide) rfl) ?_
              first | refine s_imm rfl rfl (rv_loadi rfl (part_sc T23 rfl rfl)) ?_ | refine s_read rfl rfl (rv_load rfl) (rfl) (part_sc T23 rfl rfl) ?_
              first | refine s_pure rfl rfl (pv_len T23 rfl rfl) ?_ | refine s_pure rfl rfl (pv_len_sl T23 rfl rfl) ?_
              refine s_pure rfl rfl (pv_mov rfl) ?_
              refine s_nil ?_
              refine AWp.block ?_
              refine AWp.loop (σ := {s : Nat × AH // s.1 ≤ nodes.length ∧ NodesPre ⟨st, ⟨hnl, hcap, hood⟩, ⟨nnl, ncap, nodes⟩⟩ s.1 ∧ s.2.get 0 = some (.cells [.int .i64 st, .vec hnl hood.length hcap (hood.flatMap encPt), .vec nnl nodes.length ncap (nodes.flatMap encNd)]) ∧ 0 < s.2.next})
                (fun s => frL 117 [(1, .ptr 0 0), (47, .vec nnl nodes.length ncap (nodes.flatMap encNd)), (48, .int .i64 nodes.length), (49, .int .i64 s.1.1)]) (fun s => s.1.2) (fun s => nodes.length - s.1.1) ⟨(0, _), by simp, fun k p h => by simp at h, rfl, Nat.zero_lt_one⟩ (Weak.frL rfl ⟨rfl, rfl, rfl, rfl, trivial⟩) ?_
              rintro ⟨⟨k, A⟩, hk, hinv, h0, hn0⟩
              dsimp only at hk hinv h0 hn0 ⊢
              refine AWp.seq ?_
              refine AWp.region E_ok.ok ?_
              refine s_splitP rfl rfl (pv_int rfl rfl rfl) decide_eq_true_iff ?_ ?_
              · intro h5x0
                have hlt : k < nodes.length := by omega
                obtain ⟨x, hx⟩ := get_some hlt
                have hkk : (k : Int) = k := rfl
                have hxn := hw3 x (List.mem_of_getElem? hx)
                refine s_nil ?_
                refine AWp.seq ?_
                refine AWp.cond (b := true) rfl (fun _ => ?_) (fun h => by cases h)
                refine AWp.skip ?_
                refine AWp.seq ?_
                refine AWp.block ?_
                refine AWp.seq ?_
                refine AWp.region E_ok.ok ?_
                refine s_pure rfl rfl (pv_mov rfl) ?_
                first | refine s_pure rfl rfl (pv_idx T23 rfl T49 rfl rfl (by omega) (by omega) (drop_encI encNd_len hkk hx)) ?_ | refine s_pure rfl rfl (pv_idx_sl T23 rfl T49 rfl rfl (by omega) (by omega)) ?_
                first | refine s_imm rfl rfl (rv_loadi rfl (part_agg T49 rfl rfl rfl)) ?_ | refine s_read rfl rfl (rv_load rfl) h0 (part_agg T49 rfl rfl rfl) ?_
                refine s_newG rfl rfl (nv_alloc T49 rfl) ?_
                intro A6x3 hn6x3 hg6x3 hk6x3
                replace h0 := hk6x3 _ _ (by omega) h0
                refine s_pure rfl rfl (pv_asg rfl) ?_
                first | refine s_putG rfl rfl (ev_store T49 rfl rfl (by intro vs h; cases h) (hg6x3) rfl (by first | exact Nat.le_of_ble_eq_true rfl | (simp; omega)) rfl) ?_ | refine s_putG rfl rfl (ev_store T49 rfl rfl (by intro vs h; cases h) (h0) rfl (by first | exact Nat.le_of_ble_eq_true rfl | (simp; omega)) rfl) ?_
                intro A6x5 hn6x5 hg6x5 hk6x5
                first | replace h0 := hk6x5 _ _ (by omega) h0 | skip
                first | replace hg6x3 := hk6x5 _ _ (by omega) hg6x3 | skip
                refine s_nil ?_
                refine AWp.seq ?_
                refine AWp.seq ?_
                refine AWp.region E_ok.ok ?_
                first | refine s_pure rfl rfl (pv_fld T49 rfl rfl T3 (by decide) rfl) ?_ | refine s_pure rfl rfl (pv_fldi T49 rfl rfl T3 (by decide) rfl) ?_
                first | refine s_imm rfl rfl (rv_loadi rfl (part_sc T3 rfl rfl)) ?_ | refine s_read rfl rfl (rv_load rfl) hg6x5 (part_sc T3 rfl rfl) ?_ | refine s_read rfl rfl (rv_load rfl) hg6x3 (part_sc T3 rfl rfl) ?_ | refine s_read rfl rfl (rv_load rfl) h0 (part_sc T3 rfl rfl) ?_
                refine s_splitP rfl rfl (pv_int rfl rfl rfl) decide_eq_true_iff ?_ ?_
                · intro h7x2
                  refine s_pure rfl rfl (pv_mov rfl) ?_
                  refine s_skip rfl rfl ?_
                  refine s_skip rfl rfl ?_
                  refine s_skip rfl rfl ?_
                  refine s_skip rfl rfl ?_
                  refine s_skip rfl rfl ?_
                  refine s_skip rfl rfl ?_
                  first | refine s_pure rfl rfl (pv_pickT rfl rfl) ?_ | refine s_pure rfl rfl (pv_pickF rfl rfl) ?_
                  refine s_pure rfl rfl (pv_mov rfl) ?_
                  refine s_skip rfl rfl ?_
                  refine s_skip rfl rfl ?_
                  refine s_skip rfl rfl ?_
                  refine s_skip rfl rfl ?_
                  refine s_skip rfl rfl ?_
                  refine s_skip rfl rfl ?_
                  first | refine s_pure rfl rfl (pv_pickT rfl rfl) ?_ | refine s_pure rfl rfl (pv_pickF rfl rfl) ?_
                  refine s_nil ?_
                  refine AWp.cond (b := true) rfl (fun _ => ?_) (fun h => by cases h)
                  refine AWp.seq ?_
                  refine AWp.region E_ok.ok ?_
                  refine s_pure rfl rfl (pv_asg rfl) ?_
                  refine s_nil ?_
                  refine AWp.ret ?_
                  refine ⟨_, rfl, 1, _, rfl, ?_⟩
                  show AV.bool false = _
                  rw [tb_false]
                  intro H
                  have H1 := H.states; have H2 := H.size
                  dsimp only at H1 H2
                  first
                    | omega
                    | exact absurd (hb.symm.trans (tb_iff.2 H.hood)) Bool.false_ne_true
                    | (have H3 := H.root z hz; dsimp only at H3; omega)
                    | (obtain ⟨N1, N2, N3, N4⟩ := H.node k x hx; dsimp only at N1 N2 N3; first | omega | (obtain ⟨M1, M2, M3⟩ := N4 j m hm; dsimp only at M1 M2 M3; first | omega | (have := M3 (by omega); first | omega | (have := this.2 y hy; omega))))
                · intro h7x2
                  refine s_pure rfl rfl (pv_mov rfl) ?_
                  first | refine s_pure rfl rfl (pv_fld T49 rfl rfl T3 (by decide) rfl) ?_ | refine s_pure rfl rfl (pv_fldi T49 rfl rfl T3 (by decide) rfl) ?_
                  first | refine s_imm rfl rfl (rv_loadi rfl (part_sc T3 rfl rfl)) ?_ | refine s_read rfl rfl (rv_load rfl) hg6x5 (part_sc T3 rfl rfl) ?_ | refine s_read rfl rfl (rv_load rfl) hg6x3 (part_sc T3 rfl rfl) ?_ | refine s_read rfl rfl (rv_load rfl) h0 (part_sc T3 rfl rfl) ?_
                  first | refine s_pure rfl rfl (pv_fld T25 rfl rfl T22 (by decide) rfl) ?_ | refine s_pure rfl rfl (pv_fldi T25 rfl rfl T22 (by decide) rfl) ?_
                  first | refine s_imm rfl rfl (rv_loadi rfl (part_sc T22 rfl rfl)) ?_ | refine s_read rfl rfl (rv_load rfl) hg6x5 (part_sc T22 rfl rfl) ?_ | refine s_read rfl rfl (rv_load rfl) hg6x3 (part_sc T22 rfl rfl) ?_ | refine s_read rfl rfl (rv_load rfl) h0 (part_sc T22 rfl rfl) ?_
                  first | refine s_pure rfl rfl (pv_len T22 rfl rfl) ?_ | refine s_pure rfl rfl (pv_len_sl T22 rfl rfl) ?_
                  refine s_splitP rfl rfl (pv_int rfl rfl rfl) decide_eq_true_iff ?_ ?_
                  · intro h7x9
                    first | refine s_pure rfl rfl (pv_pickT rfl rfl) ?_ | refine s_pure rfl rfl (pv_pickF rfl rfl) ?_
                    refine s_pure rfl rfl (pv_mov rfl) ?_
                    refine s_skip rfl rfl ?_
                    refine s_skip rfl rfl ?_
                    refine s_skip rfl rfl ?_
                    refine s_skip rfl rfl ?_
                    refine s_skip rfl rfl ?_
                    refine s_skip rfl rfl ?_
                    first | refine s_pure rfl rfl (pv_pickT rfl rfl) ?_ | refine s_pure rfl rfl (pv_pickF rfl rfl) ?_
                    refine s_nil ?_
                    refine AWp.cond (b := true) rfl (fun _ => ?_) (fun h => by cases h)
                    refine AWp.seq ?_
                    refine AWp.region E_ok.ok ?_
                    refine s_pure rfl rfl (pv_asg rfl) ?_
                    refine s_nil ?_
                    refine AWp.ret ?_
                    refine ⟨_, rfl, 1, _, rfl, ?_⟩
                    show AV.bool false = _
                    rw [tb_false]
                    intro H
                    have H1 := H.states; have H2 := H.size
                    dsimp only at H1 H2
                    first
                      | omega
                      | exact absurd (hb.symm.trans (tb_iff.2 H.hood)) Bool.false_ne_true
                      | (have H3 := H.root z hz; dsimp only at H3; omega)
                      | (obtain ⟨N1, N2, N3, N4⟩ := H.node k x hx; dsimp only at N1 N2 N3; first | omega | (obtain ⟨M1, M2, M3⟩ := N4 j m hm; dsimp only at M1 M2 M3; first | omega | (have := M3 (by omega); first | omega | (have := this.2 y hy; omega))))
                  · intro h7x9
                    first | refine s_pure rfl rfl (pv_pickT rfl rfl) ?_ | refine s_pure rfl rfl (pv_pickF rfl rfl) ?_
                    refine s_pure rfl rfl (pv_mov rfl) ?_
                    first | refine s_pure rfl rfl (pv_fld T49 rfl rfl T29 (by decide) rfl) ?_ | refine s_pure rfl rfl (pv_fldi T49 rfl rfl T29 (by decide) rfl) ?_
                    first | refine s_imm rfl rfl (rv_loadi rfl (part_sc T29 rfl rfl)) ?_ | refine s_read rfl rfl (rv_load rfl) hg6x5 (part_sc T29 rfl rfl) ?_ | refine s_read rfl rfl (rv_load rfl) hg6x3 (part_sc T29 rfl rfl) ?_ | refine s_read rfl rfl (rv_load rfl) h0 (part_sc T29 rfl rfl) ?_
                    first | refine s_pure rfl rfl (pv_len T29 rfl rfl) ?_ | refine s_pure rfl rfl (pv_len_sl T29 rfl rfl) ?_
                    first | refine s_pure rfl rfl (pv_fld T25 rfl rfl T3 (by decide) rfl) ?_ | refine s_pure rfl rfl (pv_fldi T25 rfl rfl T3 (by decide) rfl) ?_
                    first | refine s_imm rfl rfl (rv_loadi rfl (part_sc T3 rfl rfl)) ?_ | refine s_read rfl rfl (rv_load rfl) hg6x5 (part_sc T3 rfl rfl) ?_ | refine s_read rfl rfl (rv_load rfl) hg6x3 (part_sc T3 rfl rfl) ?_ | refine s_read rfl rfl (rv_load rfl) h0 (part_sc T3 rfl rfl) ?_
                    refine s_splitP rfl rfl (pv_int rfl rfl rfl) bne_iff_ne ?_ ?_
                    · intro h7x17
                      first | refine s_pure rfl rfl (pv_pickT rfl rfl) ?_ | refine s_pure rfl rfl (pv_pickF rfl rfl) ?_
                      refine s_nil ?_
                      refine AWp.cond (b := true) rfl (fun _ => ?_) (fun h => by cases h)
                      refine AWp.seq ?_
                      refine AWp.region E_ok.ok ?_
                      refine s_pure rfl rfl (pv_asg rfl) ?_
                      refine s_nil ?_
                      refine AWp.ret ?_
                      refine ⟨_, rfl, 1, _, rfl, ?_⟩
                      show AV.bool false = _
                      rw [tb_false]
                      intro H
                      have H1 := H.states; have H2 := H.size
                      dsimp only at H1 H2
                      first
                        | omega
                        | exact absurd (hb.symm.trans (tb_iff.2 H.hood)) Bool.false_ne_true
                        | (have H3 := H.root z hz; dsimp only at H3; omega)
                        | (obtain ⟨N1, N2, N3, N4⟩ := H.node k x hx; dsimp only at N1 N2 N3; first | omega | (obtain ⟨M1, M2, M3⟩ := N4 j m hm; dsimp only at M1 M2 M3; first | omega | (have := M3 (by omega); first | omega | (have := this.2 y hy; omega))))
                    · intro h7x17
                      first | refine s_pure rfl rfl (pv_pickT rfl rfl) ?_ | refine s_pure rfl rfl (pv_pickF rfl rfl) ?_
                      refine s_nil ?_
                      refine AWp.cond (b := false) rfl (fun h => by cases h) (fun _ => ?_)
                      refine AWp.skip ?_
                      refine AWp.seq ?_
                      refine AWp.region E_ok.ok ?_
                      first | refine s_pure rfl rfl (pv_fld T49 rfl rfl T29 (by decide) rfl) ?_ | refine s_pure rfl rfl (pv_fldi T49 rfl rfl T29 (by decide) rfl) ?_
                      first | refine s_imm rfl rfl (rv_loadi rfl (part_sc T29 rfl rfl)) ?_ | refine s_read rfl rfl (rv_load rfl) hg6x5 (part_sc T29 rfl rfl) ?_ | refine s_read rfl rfl (rv_load rfl) hg6x3 (part_sc T29 rfl rfl) ?_ | refine s_read rfl rfl (rv_load rfl) h0 (part_sc T29 rfl rfl) ?_
                      first | refine s_pure rfl rfl (pv_len T29 rfl rfl) ?_ | refine s_pure rfl rfl (pv_len_sl T29 rfl rfl) ?_
                      refine s_pure rfl rfl (pv_mov rfl) ?_
                      refine s_nil ?_
                      refine AWp.block ?_
                      refine AWp.loop (σ := {s : Nat × AH // s.1 ≤ x.next.length ∧ NextPre ⟨st, ⟨hnl, hcap, hood⟩, ⟨nnl, ncap, nodes⟩⟩ k x s.1 ∧ s.2.get 0 = some (.cells [.int .i64 st, .vec hnl hood.length hcap (hood.flatMap encPt), .vec nnl nodes.length ncap (nodes.flatMap encNd)]) ∧ s.2.get A.next = some (.cells (encNd x)) ∧ 0 < s.2.next})
                        (fun s => frL 117 [(1, .ptr 0 0), (47, .vec nnl nodes.length ncap (nodes.flatMap encNd)), (48, .int .i64 nodes.length), (49, .int .i64 k), (4, .int .i64 k), (5, .ptr A.next 0), (74, .vec x.nl x.next.length x.cap (x.next.map (.int .i64))), (75, .int .i64 x.next.length), (76, .int .i64 s.1.1)]) (fun s => s.1.2) (fun s => x.next.length - s.1.1)
                        ⟨(0, _), by simp, fun k p h => by simp at h, h0, hg6x5, by dsimp only; omega⟩ (Weak.frL rfl ⟨rfl, rfl, rfl, rfl, rfl, rfl, rfl, rfl, rfl, trivial⟩) ?_
                      rintro ⟨⟨j, A2⟩, hj, hinv2, h0, h5, hn2⟩
                      dsimp only at hj hinv2 h0 h5 hn2 ⊢
                      refine AWp.seq ?_
                      refine AWp.region E_ok.ok ?_
                      refine s_splitP rfl rfl (pv_int rfl rfl rfl) decide_eq_true_iff ?_ ?_
                      · intro h10x0
                        obtain ⟨m, hm⟩ := get_some (show j < x.next.length by omega)
                        have hjj : (j : Int) = j := rfl
                        refine s_nil ?_
                        refine AWp.seq ?_
                        refine AWp.cond (b := true) rfl (fun _ => ?_) (fun h => by cases h)
                        refine AWp.skip ?_
                        refine AWp.seq ?_
                        refine AWp.block ?_
                        refine AWp.seq ?_
                        refine AWp.region E_ok.ok ?_
                        first | refine s_pure rfl rfl (pv_idx T29 rfl T3 rfl rfl (by omega) (by omega) (drop_map hjj hm)) ?_ | refine s_pure rfl rfl (pv_idx_sl T29 rfl T3 rfl rfl (by omega) (by omega)) ?_
                        first | refine s_imm rfl rfl (rv_loadi rfl (part_sc T3 rfl rfl)) ?_ | refine s_read rfl rfl (rv_load rfl) h5 (part_sc T3 rfl rfl) ?_ | refine s_read rfl rfl (rv_load rfl) h0 (part_sc T3 rfl rfl) ?_
                        refine s_pure rfl rfl (pv_asg rfl) ?_
                        refine s_nil ?_
                        refine AWp.seq ?_
                        refine AWp.drawq E_ok.ok (ord := [0, 1, 2, 3, 4, 5, 6, 7, 8, 9, 10, 11, 12, 13, 14, 15, 16, 17, 18, 19, 20, 21, 22, 23, 24, 25, 26, 27, 28, 29, 30, 31, 32, 33, 34]) (by kernel_rfl) ?_
                        refine q_pure rfl rfl rfl rfl (pv_mov rfl) ?_
                        refine q_splitP rfl rfl rfl rfl (pv_int rfl rfl rfl) decide_eq_true_iff ?_ ?_
                        · intro h12x1
                          refine q_pure rfl rfl rfl rfl (pv_mov rfl) ?_
                          refine q_skip rfl rfl rfl ?_
                          refine q_skip rfl rfl rfl ?_
                          refine q_skip rfl rfl rfl ?_
                          refine q_skip rfl rfl rfl ?_
                          refine q_skip rfl rfl rfl ?_
                          refine q_skip rfl rfl rfl ?_
                          refine q_skip rfl rfl rfl ?_
                          refine q_skip rfl rfl rfl ?_
                          refine q_skip rfl rfl rfl ?_
                          first | refine q_pure rfl rfl rfl rfl (pv_pickT rfl rfl) ?_ | refine q_pure rfl rfl rfl rfl (pv_pickF rfl rfl) ?_
                          refine q_pure rfl rfl rfl rfl (pv_mov rfl) ?_
                          refine q_skip rfl rfl rfl ?_
                          refine q_skip rfl rfl rfl ?_
                          refine q_skip rfl rfl rfl ?_
                          refine q_skip rfl rfl rfl ?_
                          refine q_skip rfl rfl rfl ?_
                          refine q_skip rfl rfl rfl ?_
                          refine q_skip rfl rfl rfl ?_
                          refine q_skip rfl rfl rfl ?_
                          refine q_skip rfl rfl rfl ?_
                          refine q_skip rfl rfl rfl ?_
                          refine q_skip rfl rfl rfl ?_
                          refine q_skip rfl rfl rfl ?_
                          refine q_skip rfl rfl rfl ?_
                          refine q_skip rfl rfl rfl ?_
                          refine q_skip rfl rfl rfl ?_
                          refine q_skip rfl rfl rfl ?_
                          refine q_skip rfl rfl rfl ?_
                          refine q_skip rfl rfl rfl ?_
                          refine q_skip rfl rfl rfl ?_
                          refine q_skip rfl rfl rfl ?_
                          first | refine q_pure rfl rfl rfl rfl (pv_pickT rfl rfl) ?_ | refine q_pure rfl rfl rfl rfl (pv_pickF rfl rfl) ?_
                          first | refine q_nil0 ?_ | refine q_nil ?_
                          refine AWp.cond (b := true) rfl (fun _ => ?_) (fun h => by cases h)
                          refine AWp.seq ?_
                          refine AWp.region E_ok.ok ?_
                          refine s_pure rfl rfl (pv_asg rfl) ?_
                          refine s_nil ?_
                          refine AWp.ret ?_
                          refine ⟨_, rfl, 1, _, rfl, ?_⟩
                          show AV.bool false = _
                          rw [tb_false]
                          intro H
                          have H1 := H.states; have H2 := H.size
                          dsimp only at H1 H2
                          first
                            | omega
                            | exact absurd (hb.symm.trans (tb_iff.2 H.hood)) Bool.false_ne_true
                            | (have H3 := H.root z hz; dsimp only at H3; omega)
                            | (obtain ⟨N1, N2, N3, N4⟩ := H.node k x hx; dsimp only at N1 N2 N3; first | omega | (obtain ⟨M1, M2, M3⟩ := N4 j m hm; dsimp only at M1 M2 M3; first | omega | (have := M3 (by omega); first | omega | (have := this.2 y hy; omega))))
                        · intro h12x1
                          refine q_pure rfl rfl rfl rfl (pv_mov rfl) ?_
                          first | refine q_pure rfl rfl rfl rfl (pv_fld T49 rfl rfl T3 (by decide) rfl) ?_ | refine q_pure rfl rfl rfl rfl (pv_fldi T49 rfl rfl T3 (by decide) rfl) ?_
                          first | refine q_imm rfl rfl rfl rfl (rv_loadi rfl (part_sc T3 rfl rfl)) ?_ | refine q_read rfl rfl rfl rfl (rv_load rfl) h5 (part_sc T3 rfl rfl) ?_ | refine q_read rfl rfl rfl rfl (rv_load rfl) h0 (part_sc T3 rfl rfl) ?_
                          refine q_splitP rfl rfl rfl rfl (pv_int rfl rfl rfl) beq_iff_eq ?_ ?_
                          · intro h12x5
                            refine q_pure rfl rfl rfl rfl (pv_mov rfl) ?_
                            refine q_pure rfl rfl rfl rfl (pv_mov rfl) ?_
                            first | refine q_pure rfl rfl rfl rfl (pv_fld T25 rfl rfl T3 (by decide) rfl) ?_ | refine q_pure rfl rfl rfl rfl (pv_fldi T25 rfl rfl T3 (by decide) rfl) ?_
                            first | refine q_imm rfl rfl rfl rfl (rv_loadi rfl (part_sc T3 rfl rfl)) ?_ | refine q_read rfl rfl rfl rfl (rv_load rfl) h5 (part_sc T3 rfl rfl) ?_ | refine q_read rfl rfl rfl rfl (rv_load rfl) h0 (part_sc T3 rfl rfl) ?_
                            refine q_splitP rfl rfl rfl rfl (pv_int rfl rfl rfl) decide_eq_true_iff ?_ ?_
                            · intro h12x10
                              first | refine q_pure rfl rfl rfl rfl (pv_pickT rfl rfl) ?_ | refine q_pure rfl rfl rfl rfl (pv_pickF rfl rfl) ?_
                              first | refine q_pure rfl rfl rfl rfl (pv_pickT rfl rfl) ?_ | refine q_pure rfl rfl rfl rfl (pv_pickF rfl rfl) ?_
                              refine q_pure rfl rfl rfl rfl (pv_mov rfl) ?_
                              refine q_skip rfl rfl rfl ?_
                              refine q_skip rfl rfl rfl ?_
                              refine q_skip rfl rfl rfl ?_
                              refine q_skip rfl rfl rfl ?_
                              refine q_skip rfl rfl rfl ?_
                              refine q_skip rfl rfl rfl ?_
                              refine q_skip rfl rfl rfl ?_
                              refine q_skip rfl rfl rfl ?_
                              refine q_skip rfl rfl rfl ?_
                              refine q_skip rfl rfl rfl ?_
                              refine q_skip rfl rfl rfl ?_
                              refine q_skip rfl rfl rfl ?_
                              refine q_skip rfl rfl rfl ?_
                              refine q_skip rfl rfl rfl ?_
                              refine q_skip rfl rfl rfl ?_
                              refine q_skip rfl rfl rfl ?_
                              refine q_skip rfl rfl rfl ?_
                              refine q_skip rfl rfl rfl ?_
                              refine q_skip rfl rfl rfl ?_
                              refine q_skip rfl rfl rfl ?_
                              first | refine q_pure rfl rfl rfl rfl (pv_pickT rfl rfl) ?_ | refine q_pure rfl rfl rfl rfl (pv_pickF rfl rfl) ?_
                              first | refine q_nil0 ?_ | refine q_nil ?_
                              refine AWp.cond (b := true) rfl (fun _ => ?_) (fun h => by cases h)
                              refine AWp.seq ?_
                              refine AWp.region E_ok.ok ?_
                              refine s_pure rfl rfl (pv_asg rfl) ?_
                              refine s_nil ?_
                              refine AWp.ret ?_
                              refine ⟨_, rfl, 1, _, rfl, ?_⟩
                              show AV.bool false = _
                              rw [tb_false]
                              intro H
                              have H1 := H.states; have H2 := H.size
                              dsimp only at H1 H2
                              first
                                | omega
                                | exact absurd (hb.symm.trans (tb_iff.2 H.hood)) Bool.false_ne_true
                                | (have H3 := H.root z hz; dsimp only at H3; omega)
                                | (obtain ⟨N1, N2, N3, N4⟩ := H.node k x hx; dsimp only at N1 N2 N3; first | omega | (obtain ⟨M1, M2, M3⟩ := N4 j m hm; dsimp only at M1 M2 M3; first | omega | (have := M3 (by omega); first | omega | (have := this.2 y hy; omega))))
                            · intro h12x10
                              first | refine q_pure rfl rfl rfl rfl (pv_pickT rfl rfl) ?_ | refine q_pure rfl rfl rfl rfl (pv_pickF rfl rfl) ?_
                              first | refine q_pure rfl rfl rfl rfl (pv_pickT rfl rfl) ?_ | refine q_pure rfl rfl rfl rfl (pv_pickF rfl rfl) ?_
                              refine q_pure rfl rfl rfl rfl (pv_mov rfl) ?_
                              first | refine q_pure rfl rfl rfl rfl (pv_fld T49 rfl rfl T3 (by decide) rfl) ?_ | refine q_pure rfl rfl rfl rfl (pv_fldi T49 rfl rfl T3 (by decide) rfl) ?_
                              first | refine q_imm rfl rfl rfl rfl (rv_loadi rfl (part_sc T3 rfl rfl)) ?_ | refine q_read rfl rfl rfl rfl (rv_load rfl) h5 (part_sc T3 rfl rfl) ?_ | refine q_read rfl rfl rfl rfl (rv_load rfl) h0 (part_sc T3 rfl rfl) ?_
                              refine q_splitP rfl rfl rfl rfl (pv_int rfl rfl rfl) decide_eq_true_iff ?_ ?_
                              · intro h12x16
                                refine q_pure rfl rfl rfl rfl (pv_mov rfl) ?_
                                refine q_pure rfl rfl rfl rfl (pv_mov rfl) ?_
                                refine q_pure rfl rfl rfl rfl (pv_mov rfl) ?_
                                refine q_splitP rfl rfl rfl rfl (pv_int rfl rfl rfl) decide_eq_true_iff ?_ ?_
                                · intro h12x20
                                  refine q_pure rfl rfl rfl rfl (pv_mov rfl) ?_
                                  refine q_skip rfl rfl rfl ?_
                                  refine q_skip rfl rfl rfl ?_
                                  refine q_skip rfl rfl rfl ?_
                                  refine q_skip rfl rfl rfl ?_
                                  refine q_skip rfl rfl rfl ?_
                                  refine q_skip rfl rfl rfl ?_
                                  refine q_skip rfl rfl rfl ?_
                                  refine q_skip rfl rfl rfl ?_
                                  refine q_skip rfl rfl rfl ?_
                                  refine q_skip rfl rfl rfl ?_
                                  first | refine q_pure rfl rfl rfl rfl (pv_pickT rfl rfl) ?_ | refine q_pure rfl rfl rfl rfl (pv_pickF rfl rfl) ?_
                                  first | refine q_pure rfl rfl rfl rfl (pv_pickT rfl rfl) ?_ | refine q_pure rfl rfl rfl rfl (pv_pickF rfl rfl) ?_
                                  first | refine q_pure rfl rfl rfl rfl (pv_pickT rfl rfl) ?_ | refine q_pure rfl rfl rfl rfl (pv_pickF rfl rfl) ?_
                                  first | refine q_nil0 ?_ | refine q_nil ?_
                                  refine AWp.cond (b := true) rfl (fun _ => ?_) (fun h => by cases h)
                                  refine AWp.seq ?_
                                  refine AWp.region E_ok.ok ?_
                                  refine s_pure rfl rfl (pv_asg rfl) ?_
                                  refine s_nil ?_
                                  refine AWp.ret ?_
                                  refine ⟨_, rfl, 1, _, rfl, ?_⟩
                                  show AV.bool false = _
                                  rw [tb_false]
                                  intro H
                                  have H1 := H.states; have H2 := H.size
                                  dsimp only at H1 H2
                                  first
                                    | omega
                                    | exact absurd (hb.symm.trans (tb_iff.2 H.hood)) Bool.false_ne_true
                                    | (have H3 := H.root z hz; dsimp only at H3; omega)
                                    | (obtain ⟨N1, N2, N3, N4⟩ := H.node k x hx; dsimp only at N1 N2 N3; first | omega | (obtain ⟨M1, M2, M3⟩ := N4 j m hm; dsimp only at M1 M2 M3; first | omega | (have := M3 (by omega); first | omega | (have := this.2 y hy; omega))))
                                · intro h12x20
                                  obtain ⟨y, hy⟩ := get_some (show m.toNat < nodes.length by omega)
                                  have hmm : m = (m.toNat : Nat) := by omega
                                  refine q_pure rfl rfl rfl rfl (pv_mov rfl) ?_
                                  first | refine q_pure rfl rfl rfl rfl (pv_fld T25 rfl rfl T23 (by decide) rfl) ?_ | refine q_pure rfl rfl rfl rfl (pv_fldi T25 rfl rfl T23 (by decide) rfl) ?_
                                  first | refine q_imm rfl rfl rfl rfl (rv_loadi rfl (part_sc T23 rfl rfl)) ?_ | refine q_read rfl rfl rfl rfl (rv_load rfl) h5 (part_sc T23 rfl rfl) ?_ | refine q_read rfl rfl rfl rfl (rv_load rfl) h0 (part_sc T23 rfl rfl) ?_
                                  refine q_pure rfl rfl rfl rfl (pv_mov rfl) ?_
                                  first | refine q_pure rfl rfl rfl rfl (pv_idx T23 rfl T49 rfl rfl (by omega) (by omega) (drop_encI encNd_len hmm hy)) ?_ | refine q_pure rfl rfl rfl rfl (pv_idx_sl T23 rfl T49 rfl rfl (by omega) (by omega)) ?_
                                  first | refine q_pure rfl rfl rfl rfl (pv_fld T49 rfl rfl T3 (by decide) rfl) ?_ | refine q_pure rfl rfl rfl rfl (pv_fldi T49 rfl rfl T3 (by decide) rfl) ?_
                                  first | refine q_imm rfl rfl rfl rfl (rv_loadi rfl (part_sc T3 rfl rfl)) ?_ | refine q_read rfl rfl rfl rfl (rv_load rfl) h5 (part_sc T3 rfl rfl) ?_ | refine q_read rfl rfl rfl rfl (rv_load rfl) h0 (part_sc T3 rfl rfl) ?_
                                  first | refine q_pure rfl rfl rfl rfl (pv_fld T49 rfl rfl T3 (by decide) rfl) ?_ | refine q_pure rfl rfl rfl rfl (pv_fldi T49 rfl rfl T3 (by decide) rfl) ?_
                                  first | refine q_imm rfl rfl rfl rfl (rv_loadi rfl (part_sc T3 rfl rfl)) ?_ | refine q_read rfl rfl rfl rfl (rv_load rfl) h5 (part_sc T3 rfl rfl) ?_ | refine q_read rfl rfl rfl rfl (rv_load rfl) h0 (part_sc T3 rfl rfl) ?_
                                  refine q_pure rfl rfl rfl rfl (pv_sub rfl rfl (by omega) (by omega)) ?_
                                  refine q_splitP rfl rfl rfl rfl (pv_int rfl rfl rfl) bne_iff_ne ?_ ?_
                                  · intro h12x31
                                    first | refine q_pure rfl rfl rfl rfl (pv_pickT rfl rfl) ?_ | refine q_pure rfl rfl rfl rfl (pv_pickF rfl rfl) ?_
                                    first | refine q_pure rfl rfl rfl rfl (pv_pickT rfl rfl) ?_ | refine q_pure rfl rfl rfl rfl (pv_pickF rfl rfl) ?_
                                    first | refine q_pure rfl rfl rfl rfl (pv_pickT rfl rfl) ?_ | refine q_pure rfl rfl rfl rfl (pv_pickF rfl rfl) ?_
                                    first | refine q_nil0 ?_ | refine q_nil ?_
                                    refine AWp.cond (b := true) rfl (fun _ => ?_) (fun h => by cases h)
                                    refine AWp.seq ?_
                                    refine AWp.region E_ok.ok ?_
                                    refine s_pure rfl rfl (pv_asg rfl) ?_
                                    refine s_nil ?_
                                    refine AWp.ret ?_
                                    refine ⟨_, rfl, 1, _, rfl, ?_⟩
                                    show AV.bool false = _
                                    rw [tb_false]
                                    intro H
                                    have H1 := H.states; have H2 := H.size
                                    dsimp only at H1 H2
                                    first
                                      | omega
                                      | exact absurd (hb.symm.trans (tb_iff.2 H.hood)) Bool.false_ne_true
                                      | (have H3 := H.root z hz; dsimp only at H3; omega)
                                      | (obtain ⟨N1, N2, N3, N4⟩ := H.node k x hx; dsimp only at N1 N2 N3; first | omega | (obtain ⟨M1, M2, M3⟩ := N4 j m hm; dsimp only at M1 M2 M3; first | omega | (have := M3 (by omega); first | omega | (have := this.2 y hy; omega))))
                                  · intro h12x31
                                    first | refine q_pure rfl rfl rfl rfl (pv_pickT rfl rfl) ?_ | refine q_pure rfl rfl rfl rfl (pv_pickF rfl rfl) ?_
                                    first | refine q_pure rfl rfl rfl rfl (pv_pickT rfl rfl) ?_ | refine q_pure rfl rfl rfl rfl (pv_pickF rfl rfl) ?_
                                    first | refine q_pure rfl rfl rfl rfl (pv_pickT rfl rfl) ?_ | refine q_pure rfl rfl rfl rfl (pv_pickF rfl rfl) ?_
                                    first | refine q_nil0 ?_ | refine q_nil ?_
                                    refine AWp.cond (b := false) rfl (fun h => by cases h) (fun _ => ?_)
                                    refine AWp.skip ?_
                                    refine AWp.region E_ok.ok ?_
                                    refine s_pure rfl rfl (pv_add rfl rfl (by omega) (by omega)) ?_
                                    refine s_pure rfl rfl (pv_mov rfl) ?_
                                    refine s_nil ?_
                                    refine ⟨⟨(j + 1, _), by omega, hinv2.step hm ⟨by omega, fun h => by dsimp only; omega, fun h => ?_⟩, h0, h5, hn2⟩, by dsimp only; omega, Weak.frL rfl ⟨rfl, rfl, rfl, rfl, rfl, rfl, rfl, rfl, rfl, trivial⟩⟩
                                    first | omega | (refine ⟨by omega, fun y' hy' => ?_⟩; dsimp only at hy'; rw [hy] at hy'; cases hy'; omega)
                              · intro h12x16
                                refine q_pure rfl rfl rfl rfl (pv_mov rfl) ?_
                                refine q_skip rfl rfl rfl ?_
                                refine q_skip rfl rfl rfl ?_
                                refine q_skip rfl rfl rfl ?_
                                refine q_skip rfl rfl rfl ?_
                                refine q_skip rfl rfl rfl ?_
                                refine q_skip rfl rfl rfl ?_
                                refine q_skip rfl rfl rfl ?_
                                refine q_skip rfl rfl rfl ?_
                                refine q_skip rfl rfl rfl ?_
                                refine q_skip rfl rfl rfl ?_
                                refine q_skip rfl rfl rfl ?_
                                refine q_skip rfl rfl rfl ?_
                                refine q_skip rfl rfl rfl ?_
                                refine q_skip rfl rfl rfl ?_
                                refine q_skip rfl rfl rfl ?_
                                first | refine q_pure rfl rfl rfl rfl (pv_pickT rfl rfl) ?_ | refine q_pure rfl rfl rfl rfl (pv_pickF rfl rfl) ?_
                                first | refine q_pure rfl rfl rfl rfl (pv_pickT rfl rfl) ?_ | refine q_pure rfl rfl rfl rfl (pv_pickF rfl rfl) ?_
                                first | refine q_nil0 ?_ | refine q_nil ?_
                                refine AWp.cond (b := false) rfl (fun h => by cases h) (fun _ => ?_)
                                refine AWp.skip ?_
                                refine AWp.region E_ok.ok ?_
                                refine s_pure rfl rfl (pv_add rfl rfl (by omega) (by omega)) ?_
                                refine s_pure rfl rfl (pv_mov rfl) ?_
                                refine s_nil ?_
                                refine ⟨⟨(j + 1, _), by omega, hinv2.step hm ⟨by omega, fun h => by dsimp only; omega, fun h => ?_⟩, h0, h5, hn2⟩, by dsimp only; omega, Weak.frL rfl ⟨rfl, rfl, rfl, rfl, rfl, rfl, rfl, rfl, rfl, trivial⟩⟩
                                first | omega | (refine ⟨by omega, fun y' hy' => ?_⟩; dsimp only at hy'; rw [hy] at hy'; cases hy'; omega)
                          · intro h12x5
                            refine q_pure rfl rfl rfl rfl (pv_mov rfl) ?_
                            refine q_skip rfl rfl rfl ?_
                            refine q_skip rfl rfl rfl ?_
                            refine q_skip rfl rfl rfl ?_
                            refine q_skip rfl rfl rfl ?_
                            first | refine q_pure rfl rfl rfl rfl (pv_pickT rfl rfl) ?_ | refine q_pure rfl rfl rfl rfl (pv_pickF rfl rfl) ?_
                            first | refine q_pure rfl rfl rfl rfl (pv_pickT rfl rfl) ?_ | refine q_pure rfl rfl rfl rfl (pv_pickF rfl rfl) ?_
                            refine q_pure rfl rfl rfl rfl (pv_mov rfl) ?_
                            first | refine q_pure rfl rfl rfl rfl (pv_fld T49 rfl rfl T3 (by decide) rfl) ?_ | refine q_pure rfl rfl rfl rfl (pv_fldi T49 rfl rfl T3 (by decide) rfl) ?_
                            first | refine q_imm rfl rfl rfl rfl (rv_loadi rfl (part_sc T3 rfl rfl)) ?_ | refine q_read rfl rfl rfl rfl (rv_load rfl) h5 (part_sc T3 rfl rfl) ?_ | refine q_read rfl rfl rfl rfl (rv_load rfl) h0 (part_sc T3 rfl rfl) ?_
                            refine q_splitP rfl rfl rfl rfl (pv_int rfl rfl rfl) decide_eq_true_iff ?_ ?_
                            · intro h12x16
                              refine q_pure rfl rfl rfl rfl (pv_mov rfl) ?_
                              refine q_pure rfl rfl rfl rfl (pv_mov rfl) ?_
                              refine q_pure rfl rfl rfl rfl (pv_mov rfl) ?_
                              refine q_splitP rfl rfl rfl rfl (pv_int rfl rfl rfl) decide_eq_true_iff ?_ ?_
                              · intro h12x20
                                refine q_pure rfl rfl rfl rfl (pv_mov rfl) ?_
                                refine q_skip rfl rfl rfl ?_
                                refine q_skip rfl rfl rfl ?_
                                refine q_skip rfl rfl rfl ?_
                                refine q_skip rfl rfl rfl ?_
                                refine q_skip rfl rfl rfl ?_
                                refine q_skip rfl rfl rfl ?_
                                refine q_skip rfl rfl rfl ?_
                                refine q_skip rfl rfl rfl ?_
                                refine q_skip rfl rfl rfl ?_
                                refine q_skip rfl rfl rfl ?_
                                first | refine q_pure rfl rfl rfl rfl (pv_pickT rfl rfl) ?_ | refine q_pure rfl rfl rfl rfl (pv_pickF rfl rfl) ?_
                                first | refine q_pure rfl rfl rfl rfl (pv_pickT rfl rfl) ?_ | refine q_pure rfl rfl rfl rfl (pv_pickF rfl rfl) ?_
                                first | refine q_pure rfl rfl rfl rfl (pv_pickT rfl rfl) ?_ | refine q_pure rfl rfl rfl rfl (pv_pickF rfl rfl) ?_
                                first | refine q_nil0 ?_ | refine q_nil ?_
                                refine AWp.cond (b := true) rfl (fun _ => ?_) (fun h => by cases h)
                                refine AWp.seq ?_
                                refine AWp.region E_ok.ok ?_
                                refine s_pure rfl rfl (pv_asg rfl) ?_
                                refine s_nil ?_
                                refine AWp.ret ?_
                                refine ⟨_, rfl, 1, _, rfl, ?_⟩
                                show AV.bool false = _
                                rw [tb_false]
                                intro H
                                have H1 := H.states; have H2 := H.size
                                dsimp only at H1 H2
                                first
                                  | omega
                                  | exact absurd (hb.symm.trans (tb_iff.2 H.hood)) Bool.false_ne_true
                                  | (have H3 := H.root z hz; dsimp only at H3; omega)
                                  | (obtain ⟨N1, N2, N3, N4⟩ := H.node k x hx; dsimp only at N1 N2 N3; first | omega | (obtain ⟨M1, M2, M3⟩ := N4 j m hm; dsimp only at M1 M2 M3; first | omega | (have := M3 (by omega); first | omega | (have := this.2 y hy; omega))))
                              · intro h12x20
                                obtain ⟨y, hy⟩ := get_some (show m.toNat < nodes.length by omega)
                                have hmm : m = (m.toNat : Nat) := by omega
                                refine q_pure rfl rfl rfl rfl (pv_mov rfl) ?_
                                first | refine q_pure rfl rfl rfl rfl (pv_fld T25 rfl rfl T23 (by decide) rfl) ?_ | refine q_pure rfl rfl rfl rfl (pv_fldi T25 rfl rfl T23 (by decide) rfl) ?_
                                first | refine q_imm rfl rfl rfl rfl (rv_loadi rfl (part_sc T23 rfl rfl)) ?_ | refine q_read rfl rfl rfl rfl (rv_load rfl) h5 (part_sc T23 rfl rfl) ?_ | refine q_read rfl rfl rfl rfl (rv_load rfl) h0 (part_sc T23 rfl rfl) ?_
                                refine q_pure rfl rfl rfl rfl (pv_mov rfl) ?_
                                first | refine q_pure rfl rfl rfl rfl (pv_idx T23 rfl T49 rfl rfl (by omega) (by omega) (drop_encI encNd_len hmm hy)) ?_ | refine q_pure rfl rfl rfl rfl (pv_idx_sl T23 rfl T49 rfl rfl (by omega) (by omega)) ?_
                                first | refine q_pure rfl rfl rfl rfl (pv_fld T49 rfl rfl T3 (by decide) rfl) ?_ | refine q_pure rfl rfl rfl rfl (pv_fldi T49 rfl rfl T3 (by decide) rfl) ?_
                                first | refine q_imm rfl rfl rfl rfl (rv_loadi rfl (part_sc T3 rfl rfl)) ?_ | refine q_read rfl rfl rfl rfl (rv_load rfl) h5 (part_sc T3 rfl rfl) ?_ | refine q_read rfl rfl rfl rfl (rv_load rfl) h0 (part_sc T3 rfl rfl) ?_
                                first | refine q_pure rfl rfl rfl rfl (pv_fld T49 rfl rfl T3 (by decide) rfl) ?_ | refine q_pure rfl rfl rfl rfl (pv_fldi T49 rfl rfl T3 (by decide) rfl) ?_
                                first | refine q_imm rfl rfl rfl rfl (rv_loadi rfl (part_sc T3 rfl rfl)) ?_ | refine q_read rfl rfl rfl rfl (rv_load rfl) h5 (part_sc T3 rfl rfl) ?_ | refine q_read rfl rfl rfl rfl (rv_load rfl) h0 (part_sc T3 rfl rfl) ?_
                                refine q_pure rfl rfl rfl rfl (pv_sub rfl rfl (by omega) (by omega)) ?_
                                refine q_splitP rfl rfl rfl rfl (pv_int rfl rfl rfl) bne_iff_ne ?_ ?_
                                · intro h12x31
                                  first | refine q_pure rfl rfl rfl rfl (pv_pickT rfl rfl) ?_ | refine q_pure rfl rfl rfl rfl (pv_pickF rfl rfl) ?_
                                  first | refine q_pure rfl rfl rfl rfl (pv_pickT rfl rfl) ?_ | refine q_pure rfl rfl rfl rfl (pv_pickF rfl rfl) ?_
                                  first | refine q_pure rfl rfl rfl rfl (pv_pickT rfl rfl) ?_ | refine q_pure rfl rfl rfl rfl (pv_pickF rfl rfl) ?_
                                  first | refine q_nil0 ?_ | refine q_nil ?_
                                  refine AWp.cond (b := true) rfl (fun _ => ?_) (fun h => by cases h)
                                  refine AWp.seq ?_
                                  refine AWp.region E_ok.ok ?_
                                  refine s_pure rfl rfl (pv_asg rfl) ?_
                                  refine s_nil ?_
                                  refine AWp.ret ?_
                                  refine ⟨_, rfl, 1, _, rfl, ?_⟩
                                  show AV.bool false = _
                                  rw [tb_false]
                                  intro H
                                  have H1 := H.states; have H2 := H.size
                                  dsimp only at H1 H2
                                  first
                                    | omega
                                    | exact absurd (hb.symm.trans (tb_iff.2 H.hood)) Bool.false_ne_true
                                    | (have H3 := H.root z hz; dsimp only at H3; omega)
                                    | (obtain ⟨N1, N2, N3, N4⟩ := H.node k x hx; dsimp only at N1 N2 N3; first | omega | (obtain ⟨M1, M2, M3⟩ := N4 j m hm; dsimp only at M1 M2 M3; first | omega | (have := M3 (by omega); first | omega | (have := this.2 y hy; omega))))
                                · intro h12x31
                                  first | refine q_pure rfl rfl rfl rfl (pv_pickT rfl rfl) ?_ | refine q_pure rfl rfl rfl rfl (pv_pickF rfl rfl) ?_
                                  first | refine q_pure rfl rfl rfl rfl (pv_pickT rfl rfl) ?_ | refine q_pure rfl rfl rfl rfl (pv_pickF rfl rfl) ?_
                                  first | refine q_pure rfl rfl rfl rfl (pv_pickT rfl rfl) ?_ | refine q_pure rfl rfl rfl rfl (pv_pickF rfl rfl) ?_
                                  first | refine q_nil0 ?_ | refine q_nil ?_
                                  refine AWp.cond (b := false) rfl (fun h => by cases h) (fun _ => ?_)
                                  refine AWp.skip ?_
                                  refine AWp.region E_ok.ok ?_
                                  refine s_pure rfl rfl (pv_add rfl rfl (by omega) (by omega)) ?_
                                  refine s_pure rfl rfl (pv_mov rfl) ?_
                                  refine s_nil ?_
                                  refine ⟨⟨(j + 1, _), by omega, hinv2.step hm ⟨by omega, fun h => by dsimp only; omega, fun h => ?_⟩, h0, h5, hn2⟩, by dsimp only; omega, Weak.frL rfl ⟨rfl, rfl, rfl, rfl, rfl, rfl, rfl, rfl, rfl, trivial⟩⟩
                                  first | omega | (refine ⟨by omega, fun y' hy' => ?_⟩; dsimp only at hy'; rw [hy] at hy'; cases hy'; omega)
                            · intro h12x16
                              refine q_pure rfl rfl rfl rfl (pv_mov rfl) ?_
                              refine q_skip rfl rfl rfl ?_
                              refine q_skip rfl rfl rfl ?_
                              refine q_skip rfl rfl rfl ?_
                              refine q_skip rfl rfl rfl ?_
                              refine q_skip rfl rfl rfl ?_
                              refine q_skip rfl rfl rfl ?_
                              refine q_skip rfl rfl rfl ?_
                              refine q_skip rfl rfl rfl ?_
                              refine q_skip rfl rfl rfl ?_
                              refine q_skip rfl rfl rfl ?_
                              refine q_skip rfl rfl rfl ?_
                              refine q_skip rfl rfl rfl ?_
                              refine q_skip rfl rfl rfl ?_
                              refine q_skip rfl rfl rfl ?_
                              refine q_skip rfl rfl rfl ?_
                              first | refine q_pure rfl rfl rfl rfl (pv_pickT rfl rfl) ?_ | refine q_pure rfl rfl rfl rfl (pv_pickF rfl rfl) ?_
                              first | refine q_pure rfl rfl rfl rfl (pv_pickT rfl rfl) ?_ | refine q_pure rfl rfl rfl rfl (pv_pickF rfl rfl) ?_
                              first | refine q_nil0 ?_ | refine q_nil ?_
                              refine AWp.cond (b := false) rfl (fun h => by cases h) (fun _ => ?_)
                              refine AWp.skip ?_
                              refine AWp.region E_ok.ok ?_
                              refine s_pure rfl rfl (pv_add rfl rfl (by omega) (by omega)) ?_
                              refine s_pure rfl rfl (pv_mov rfl) ?_
                              refine s_nil ?_
                              refine ⟨⟨(j + 1, _), by omega, hinv2.step hm ⟨by omega, fun h => by dsimp only; omega, fun h => ?_⟩, h0, h5, hn2⟩, by dsimp only; omega, Weak.frL rfl ⟨rfl, rfl, rfl, rfl, rfl, rfl, rfl, rfl, rfl, trivial⟩⟩
                              first | omega | (refine ⟨by omega, fun y' hy' => ?_⟩; dsimp only at hy'; rw [hy] at hy'; cases hy'; omega)
                      · intro h10x0
                        refine s_nil ?_
                        refine AWp.seq ?_
                        refine AWp.cond (b := false) rfl (fun h => by cases h) (fun _ => ?_)
                        refine AWp.exit ?_
                        refine AWp.region E_ok.ok ?_
                        refine s_pure rfl rfl (pv_add rfl rfl (by omega) (by omega)) ?_
                        refine s_pure rfl rfl (pv_mov rfl) ?_
                        refine s_nil ?_
                        refine ⟨⟨(k + 1, _), by omega, hinv.step hx ⟨by omega, by dsimp only; omega, by dsimp only; omega, fun s q hq => hinv2 s q (by have := (List.getElem?_eq_some_iff.1 hq).1; omega) hq⟩, h0, hn2⟩, by dsimp only; omega, Weak.frL rfl ⟨rfl, rfl, rfl, rfl, trivial⟩⟩
              · intro h5x0
                refine s_nil ?_
                refine AWp.seq ?_
                refine AWp.cond (b := false) rfl (fun h => by cases h) (fun _ => ?_)
                refine AWp.exit ?_
                refine AWp.seq ?_
                refine AWp.region E_ok.ok ?_
                refine s_pure rfl rfl (pv_asg rfl) ?_
                refine s_nil ?_
                refine AWp.ret ?_
                refine ⟨_, rfl, 1, _, rfl, ?_⟩
                show AV.bool true = _
                rw [tb_true]
                refine ⟨by dsimp only; omega, tb_iff.1 hb, by dsimp only; omega, fun x hx => ?_, fun i x h => hinv i x (by have := (List.getElem?_eq_some_iff.1 h).1; dsimp only at this; omega) h⟩
                dsimp only at hx
                rw [hz] at hx; cases hx; dsimp only; omega
      · skip
        refine q_pure rfl rfl rfl rfl (pv_un rfl rfl) ?_
        first | refine q_pure rfl rfl rfl rfl (pv_pickT rfl rfl) ?_ | refine q_pure rfl rfl rfl rfl (pv_pickF rfl rfl) ?_
        refine q_pure rfl rfl rfl rfl (pv_mov rfl) ?_
        refine q_skip rfl rfl rfl ?_
        refine q_skip rfl rfl rfl ?_
        first | refine q_pure rfl rfl rfl rfl (pv_pickT rfl rfl) ?_ | refine q_pure rfl rfl rfl rfl (pv_pickF rfl rfl) ?_
        refine q_pure rfl rfl rfl rfl (pv_mov rfl) ?_
        refine q_skip rfl rfl rfl ?_
        refine q_skip rfl rfl rfl ?_
        first | refine q_pure rfl rfl rfl rfl (pv_pickT rfl rfl) ?_ | refine q_pure rfl rfl rfl rfl (pv_pickF rfl rfl) ?_
        refine q_pure rfl rfl rfl rfl (pv_mov rfl) ?_
        refine q_skip rfl rfl rfl ?_
        refine q_skip rfl rfl rfl ?_
        refine q_skip rfl rfl rfl ?_
        refine q_skip rfl rfl rfl ?_
        refine q_skip rfl rfl rfl ?_
        refine q_skip rfl rfl rfl ?_
        refine q_skip rfl rfl rfl ?_
        refine q_skip rfl rfl rfl ?_
        refine q_skip rfl rfl rfl ?_
        refine q_skip rfl rfl rfl ?_
        refine q_skip rfl rfl rfl ?_
        first | refine q_pure rfl rfl rfl rfl (pv_pickT rfl rfl) ?_ | refine q_pure rfl rfl rfl rfl (pv_pickF rfl rfl) ?_
        first | refine q_nil0 ?_ | refine q_nil ?_
        refine AWp.cond (b := true) rfl (fun _ => ?_) (fun h => by cases h)
        refine AWp.seq ?_
        refine AWp.region E_ok.ok ?_
        refine s_pure rfl rfl (pv_asg rfl) ?_
        refine s_nil ?_
        refine AWp.ret ?_
        refine ⟨_, rfl, 1, _, rfl, ?_⟩
        show AV.bool false = _
        rw [tb_false]
        intro H
        have H1 := H.states; have H2 := H.size
        dsimp only at H1 H2
        first
          | omega
          | exact absurd (hb.symm.trans (tb_iff.2 H.hood)) Bool.false_ne_true
          | (have H3 := H.root z hz; dsimp only at H3; omega)
          | (obtain ⟨N1, N2, N3, N4⟩ := H.node k x hx; dsimp only at N1 N2 N3; first | omega | (obtain ⟨M1, M2, M3⟩ := N4 j m hm; dsimp only at M1 M2 M3; first | omega | (have := M3 (by omega); first | omega | (have := this.2 y hy; omega))))
end Go.Am.Seat

/- A part of the proof about cellularlaw49.OrphanBalanced: lemmas only; what they say is theirs alone and no condition of the claim. -/
import Derived.Test.YtjdldndhbbkflaaGreatDoorSaN
set_option autoImplicit false
set_option linter.unusedVariables false
set_option linter.unusedSimpArgs false
set_option maxRecDepth 100000
noncomputable section
namespace Go.Am.Seat
open Go Go.Am Go.Proofs
theorem cmpI_ne {a b : Nat} : cmpI a b ≠ 0 ↔ a ≠ b := by
  unfold cmpI
  by_cases h1 : (a : Int) < b
  · simp only [if_pos h1]; constructor <;> intro _ <;> omega
  · by_cases h2 : (a : Int) > b
    · simp only [if_neg h1, if_pos h2]; constructor <;> intro _ <;> omega
    · simp only [if_neg h1, if_neg h2]; constructor <;> intro h <;> omega
theorem clos_ok (v v0 : Nat) (vs : List Nat) (rb : AV) (S : Nat) (cap : Option Nat) (cs : List AV) (A : AH) (β : Nat) (hv : IsB v rb) (hvl : v ≤ 8 ^ 26) (hcs : IsBs vs cs) (h0 : vs[0]? = some v0) (h0l : v0 ≤ 8 ^ 26) (hS : S = vs.length)
    (hβ : A.get β = some (.cells [.vec false S cap cs])) (hβn : β < A.next) : ACall E.C 34 [rb, .ptr β 0] A (fun r A' => Gr A A' ∧ r = .bool (tb (v ≠ v0))) := by
  have hlen := (List.getElem?_eq_some_iff.1 h0).1
  have hcmp := compare_ok v v0 rb
  obtain ⟨nl0, cap0, rest0, hdrop⟩ := hcs.dropI (k := 0) (i := 0) rfl h0
  obtain ⟨nlv, capv, rfl⟩ := hv
  refine ACall.of_body E_ok.ok Tryz.func34 rfl (by kernel_rfl) ?_
  have HKA := HK.refl A.next A
  refine AWp.seq ?_
  refine AWp.region E_ok.ok ?_
  refine s_newG rfl rfl (nv_box rfl rfl) ?_
  intro A0x0 hn0x0 hg0x0 hk0x0
  replace hβ := hk0x0 _ _ (by omega) hβ
  replace HKA := HKA.grw hk0x0 (by omega)
  refine s_pure rfl rfl (pv_asg rfl) ?_
  refine s_nil ?_
  refine AWp.seq ?_
  refine AWp.drawq E_ok.ok (ord := [0, 1, 2, 3, 4, 5, 6]) (by kernel_rfl) ?_
  first | refine q_imm rfl rfl rfl rfl (rv_loadi rfl (part_agg T42 rfl rfl rfl)) ?_ | refine q_read rfl rfl rfl rfl (rv_load rfl) hg0x0 (part_agg T42 rfl rfl rfl) ?_ | refine q_read rfl rfl rfl rfl (rv_load rfl) hβ (part_agg T42 rfl rfl rfl) ?_
  first | refine q_imm rfl rfl rfl rfl (rv_loadi rfl (part_sc T37 rfl rfl)) ?_ | refine q_read rfl rfl rfl rfl (rv_load rfl) hg0x0 (part_sc T37 rfl rfl) ?_ | refine q_read rfl rfl rfl rfl (rv_load rfl) hβ (part_sc T37 rfl rfl) ?_
  first | refine q_pure rfl rfl rfl rfl (pv_idx T37 rfl T42 rfl rfl (by omega) (by omega) (hdrop)) ?_ | refine q_pure rfl rfl rfl rfl (pv_idx_sl T37 rfl T42 rfl rfl (by omega) (by omega)) ?_
  first | refine q_imm rfl rfl rfl rfl (rv_loadi rfl (part_agg T42 rfl rfl rfl)) ?_ | refine q_read rfl rfl rfl rfl (rv_load rfl) hg0x0 (part_agg T42 rfl rfl rfl) ?_ | refine q_read rfl rfl rfl rfl (rv_load rfl) hβ (part_agg T42 rfl rfl rfl) ?_
  refine q_callp rfl rfl rfl rfl rfl (hcmp _ ⟨nlv, capv, rfl⟩ ⟨nl0, cap0, rfl⟩ (by have := dig_small hvl; omega) (by have := dig_small h0l; omega)) ?_
  rintro _ rfl
  refine q_splitP rfl rfl rfl rfl (pv_int rfl rfl rfl) bne_iff_ne ?_ ?_
  · intro h1x5
    have hne := cmpI_ne.1 h1x5
    refine q_pure rfl rfl rfl rfl (pv_asg rfl) ?_
    first | refine q_nil0 ?_ | refine q_nil ?_
    refine AWp.ret ?_
    refine ⟨_, rfl, ⟨fun γ X h1 h2 => HKA.get γ X (by omega) h1 h2, HKA.next⟩, ?_⟩
    first
      | (show AV.bool true = _; rw [tb_true hne])
      | (show AV.bool false = _; rw [tb_false hne])
  · intro h1x5
    have hne := fun h => h1x5 (cmpI_ne.2 h)
    refine q_pure rfl rfl rfl rfl (pv_asg rfl) ?_
    first | refine q_nil0 ?_ | refine q_nil ?_
    refine AWp.ret ?_
    refine ⟨_, rfl, ⟨fun γ X h1 h2 => HKA.get γ X (by omega) h1 h2, HKA.next⟩, ?_⟩
    first
      | (show AV.bool true = _; rw [tb_true hne])
      | (show AV.bool false = _; rw [tb_false hne])
theorem indexF_ok (v0 : Nat) (vs : List Nat) (S : Nat) (cap : Option Nat) (cs : List AV) (A : AH) (β : Nat) (hvl : ∀ v ∈ vs, v ≤ 8 ^ 26) (hcs : IsBs vs cs) (h0 : vs[0]? = some v0) (hS : S = vs.length) (hS8 : S ≤ 100)
    (hβ : A.get β = some (.cells [.vec false S cap cs])) (hβn : β < A.next) :
    ACall E.C 58 [.vec false S cap cs, .func (.func 34) [] [.ptr β 0]] A (fun r A' => Gr A A' ∧ ((∃ n : Nat, r = .int .i64 n ∧ ∃ v ∈ vs, v ≠ v0) ∨ (r = .int .i64 (-1) ∧ ∀ v ∈ vs, v = v0))) := by
  have h0l := hvl v0 (List.mem_of_getElem? h0)
  refine ACall.of_body E_ok.ok Tryz.func58 rfl (by kernel_rfl) ?_
  refine AWp.seq ?_
  refine AWp.region E_ok.ok ?_
  refine s_pure rfl rfl (pv_asg rfl) ?_
  refine s_nil ?_
  refine AWp.seq ?_
  refine AWp.seq ?_
  refine AWp.region E_ok.ok ?_
  refine s_pure rfl rfl (pv_mov rfl) ?_
  first | refine s_pure rfl rfl (pv_len T37 rfl rfl) ?_ | refine s_pure rfl rfl (pv_len_sl T37 rfl rfl) ?_
  refine s_pure rfl rfl (pv_mov rfl) ?_
  refine s_nil ?_
  refine AWp.block ?_
  refine AWp.loop (σ := {s : Nat × AH // s.1 ≤ S ∧ (∀ (j v : Nat), j < s.1 → vs[j]? = some v → v = v0) ∧ s.2.get β = some (.cells [.vec false S cap cs]) ∧ Gr A s.2})
    (fun s => frL 19 [(0, .vec false S cap cs), (1, .func (.func 34) [] [.ptr β 0]), (7, .int .i64 S), (8, .int .i64 s.1.1)]) (fun s => s.1.2) (fun s => S - s.1.1)
    ⟨(0, A), Nat.zero_le _, fun j v h => (by dsimp only at h; omega), hβ, Gr.refl A⟩ (Weak.frL rfl ⟨rfl, rfl, rfl, rfl, trivial⟩) ?_
  clear hβ
  rintro ⟨⟨k, A1⟩, hk, hinv, hβ, hgr⟩
  dsimp only at hk hinv hβ hgr ⊢
  refine AWp.seq ?_
  refine AWp.region E_ok.ok ?_
  refine s_splitP rfl rfl (pv_int rfl rfl rfl) decide_eq_true_iff ?_ ?_
  · intro h2x0
    obtain ⟨v, hv⟩ := get_some (show k < vs.length by omega)
    have hkk : (k : Int) = k := rfl
    obtain ⟨nlk, capk, restk, hdrop⟩ := hcs.dropI hkk hv
    have hvk := hvl v (List.mem_of_getElem? hv)
    refine s_nil ?_
    refine AWp.seq ?_
    refine AWp.cond (b := true) rfl (fun _ => ?_) (fun h => by cases h)
    refine AWp.skip ?_
    refine AWp.seq ?_
    refine AWp.block ?_
    refine AWp.seq ?_
    refine AWp.region E_ok.ok ?_
    refine s_pure rfl rfl (pv_mov rfl) ?_
    refine s_pure rfl rfl (pv_asg rfl) ?_
    refine s_nil ?_
    refine AWp.seq ?_
    refine AWp.region E_ok.ok ?_
    refine s_pure rfl rfl (pv_mov rfl) ?_
    refine s_pure rfl rfl (pv_mov rfl) ?_
    refine s_pure rfl rfl (pv_mov rfl) ?_
    first | refine s_pure rfl rfl (pv_idx T37 rfl T42 rfl rfl (by omega) (by omega) (hdrop)) ?_ | refine s_pure rfl rfl (pv_idx_sl T37 rfl T42 rfl rfl (by omega) (by omega)) ?_
    first | refine s_imm rfl rfl (rv_loadi rfl (part_agg T42 rfl rfl rfl)) ?_ | refine s_read rfl rfl (rv_load rfl) hβ (part_agg T42 rfl rfl rfl) ?_
    refine s_call rfl rfl rfl (clos_ok v v0 vs _ S cap cs A1 β ⟨nlk, capk, rfl⟩ hvk hcs h0 h0l hS hβ (by have := hgr.next; omega)) ?_
    rintro r A2 ⟨hgr2, hr⟩
    replace hβ := hgr2.get _ _ (by have := hgr.next; omega) hβ
    rcases bool_split hr with ⟨rfl, hb⟩ | ⟨rfl, hb⟩
    · skip
      refine s_nil ?_
      refine AWp.cond (b := true) rfl (fun _ => ?_) (fun h => by cases h)
      refine AWp.seq ?_
      refine AWp.region E_ok.ok ?_
      refine s_pure rfl rfl (pv_mov rfl) ?_
      refine s_pure rfl rfl (pv_asg rfl) ?_
      refine s_nil ?_
      refine AWp.ret ?_
      exact ⟨_, rfl, hgr.trans hgr2, .inl ⟨k, rfl, v, List.mem_of_getElem? hv, tb_iff.1 hb⟩⟩
    · skip
      refine s_nil ?_
      refine AWp.cond (b := false) rfl (fun h => by cases h) (fun _ => ?_)
      refine AWp.skip ?_
      refine AWp.region E_ok.ok ?_
      refine s_pure rfl rfl (pv_add rfl rfl (by omega) (by omega)) ?_
      refine s_pure rfl rfl (pv_mov rfl) ?_
      refine s_nil ?_
      refine ⟨⟨(k + 1, A2), by dsimp only; omega, fun j w hj hw => ?_, hβ, hgr.trans hgr2⟩, by dsimp only; omega, Weak.frL rfl ⟨rfl, rfl, rfl, rfl, trivial⟩⟩
      by_cases e : j = k
      · subst e; rw [hv] at hw; cases hw
        exact Classical.not_not.1 (fun h => by rw [tb_true h] at hb; cases hb)
      · exact hinv j w (by dsimp only at hj; omega) hw
  · intro h2x0
    refine s_nil ?_
    refine AWp.seq ?_
    refine AWp.cond (b := false) rfl (fun h => by cases h) (fun _ => ?_)
    refine AWp.exit ?_
    refine AWp.seq ?_
    refine AWp.region E_ok.ok ?_
    refine s_pure rfl rfl (pv_asg rfl) ?_
    refine s_nil ?_
    refine AWp.ret ?_
    refine ⟨_, rfl, hgr, .inr ⟨rfl, fun v hv => ?_⟩⟩
    obtain ⟨j, hj⟩ := List.getElem?_of_mem hv
    exact hinv j v (by have := (List.getElem?_eq_some_iff.1 hj).1; omega) hj
theorem containsF_ok (v0 : Nat) (vs : List Nat) (S : Nat) (cap : Option Nat) (cs : List AV) (A : AH) (β : Nat) (hvl : ∀ v ∈ vs, v ≤ 8 ^ 26) (hcs : IsBs vs cs) (h0 : vs[0]? = some v0) (hS : S = vs.length) (hS8 : S ≤ 100)
    (hβ : A.get β = some (.cells [.vec false S cap cs])) (hβn : β < A.next) :
    ACall E.C 33 [.vec false S cap cs, .func (.func 34) [] [.ptr β 0]] A (fun r A' => Gr A A' ∧ r = .bool (tb (∃ v ∈ vs, v ≠ v0))) := by
  refine ACall.of_body E_ok.ok Tryz.func33 rfl (by kernel_rfl) ?_
  refine AWp.seq ?_
  refine AWp.region E_ok.ok ?_
  refine s_pure rfl rfl (pv_asg rfl) ?_
  refine s_nil ?_
  refine AWp.seq ?_
  refine AWp.region E_ok.ok ?_
  refine s_pure rfl rfl (pv_mov rfl) ?_
  refine s_pure rfl rfl (pv_mov rfl) ?_
  refine s_call rfl rfl rfl (indexF_ok v0 vs S cap cs A β hvl hcs h0 hS hS8 hβ hβn) ?_
  rintro r A2 ⟨hgr2, ⟨n, rfl, hex⟩ | ⟨rfl, hall⟩⟩
  · skip
    refine s_splitP rfl rfl (pv_int rfl rfl rfl) decide_eq_true_iff ?_ ?_
    · intro h1x3
      refine s_pure rfl rfl (pv_asg rfl) ?_
      refine s_nil ?_
      refine AWp.ret ?_
      refine ⟨_, rfl, hgr2, ?_⟩
      first
        | (exfalso; omega)
        | (show AV.bool true = _; rw [tb_true hex])
        | (show AV.bool false = _; rw [tb_false (fun ⟨v, hv, hne⟩ => hne (hall v hv))])
    · intro h1x3
      refine s_pure rfl rfl (pv_asg rfl) ?_
      refine s_nil ?_
      refine AWp.ret ?_
      refine ⟨_, rfl, hgr2, ?_⟩
      first
        | (exfalso; omega)
        | (show AV.bool true = _; rw [tb_true hex])
        | (show AV.bool false = _; rw [tb_false (fun ⟨v, hv, hne⟩ => hne (hall v hv))])
  · skip
    refine s_splitP rfl rfl (pv_int rfl rfl rfl) decide_eq_true_iff ?_ ?_
    · intro h1x3
      refine s_pure rfl rfl (pv_asg rfl) ?_
      refine s_nil ?_
      refine AWp.ret ?_
      refine ⟨_, rfl, hgr2, ?_⟩
      first
        | (exfalso; omega)
        | (show AV.bool true = _; rw [tb_true hex])
        | (show AV.bool false = _; rw [tb_false (fun ⟨v, hv, hne⟩ => hne (hall v hv))])
    · intro h1x3
      refine s_pure rfl rfl (pv_asg rfl) ?_
      refine s_nil ?_
      refine AWp.ret ?_
      refine ⟨_, rfl, hgr2, ?_⟩
      first
        | (exfalso; omega)
        | (show AV.bool true = _; rw [tb_true hex])
        | (show AV.bool false = _; rw [tb_false (fun ⟨v, hv, hne⟩ => hne (hall v hv))])
theorem clone_ok (vs : List Nat) (S : Nat) (cap : Option Nat) (cs : List AV) (hcs : IsBs vs cs) (hS : S = vs.length) (hS8 : S ≤ 100) (h1 : 0 < S) :
    PureR E.C 36 [.vec false S cap cs] (fun r => ∃ cap, r = .vec false S cap cs) := by
  refine PureR.of_empty plain (by simp [noBlks, noBlk, hcs.noBlks]) ?_
  refine ACall.of_body E_ok.ok Tryz.func36 rfl (by kernel_rfl) ?_
  have hn00 : AH.empty.next = 0 := rfl
  refine AWp.seq ?_
  refine AWp.region E_ok.ok ?_
  refine s_pure rfl rfl (pv_asg rfl) ?_
  refine s_nil ?_
  refine AWp.seq ?_
  refine AWp.seq ?_
  refine AWp.region E_ok.ok ?_
  refine s_pure rfl rfl (pv_mov rfl) ?_
  refine s_pure rfl rfl (pv_nil T37 rfl rfl rfl) ?_
  refine s_nil ?_
  refine AWp.cond (b := false) rfl (fun h => by cases h) (fun _ => ?_)
  refine AWp.skip ?_
  refine AWp.seq ?_
  refine AWp.region E_ok.ok ?_
  refine s_newG rfl rfl (nv_bs T37 rfl T42 ⟨by decide, rfl⟩ rfl rfl rfl) ?_
  intro A3x0 hn3x0 hg3x0 hk3x0
  refine s_pure rfl rfl (pv_mov rfl) ?_
  refine s_eff rfl rfl (ev_appv T37 rfl T42 rfl rfl hg3x0 (by rw [hcs.len, ← hS] <;> rfl) rfl rfl hcs.sc h1 (by show (2 * S + 192) * 32 ≤ 281474976710656; omega) (by omega)) ?_
  refine s_pure rfl rfl (pv_asg rfl) ?_
  refine s_nil ?_
  refine AWp.ret ?_
  exact leaf_own (es := 2) (lo := 0) rfl (.sl (AH.get_alloc_self _ _) (Nat.zero_le _) (Nat.lt_succ_self _) (Nat.le_refl _) (by rw [hcs.len, ← hS] <;> rfl) hcs.sc) hcs.noBlks fun nl cap hnl _ => by
    cases nl with
    | true => have := hnl rfl; omega
    | false => exact ⟨cap, rfl⟩
end Go.Am.Seat


namespace Go.Am.Seat
open Go Go.Am Go.Proofs
/-- the numbers of ways of a rule, state by state -/
def cnts (t : Tr) : List Nat := (List.range t.states.toNat).map (wl t.nodes.l t.hood.l.length (t.nodes.l.length - 1))
def BalPost (t : Tr) (r : AV) : Prop :=
  (¬ TreeOk t ∧ r = .tuple [.bool false, .vec true 0 (some 0) []]) ∨
  (TreeOk t ∧ ∃ cap cs, IsBs (cnts t) cs ∧ r = .tuple [.bool (!(tb (∃ v ∈ cnts t, v ≠ wl t.nodes.l t.hood.l.length (t.nodes.l.length - 1) 0))), .vec false t.states.toNat cap cs])
theorem cnts_le {t : Tr} (h : TreeOk t) : ∀ v ∈ cnts t, v ≤ 8 ^ 25 := by
  intro v hv
  obtain ⟨s, _, rfl⟩ := List.mem_map.1 hv
  have h1 := h.hood.2.1
  refine Nat.le_trans (wl_le (fun d hd => ?_) _ _ _) (Nat.pow_le_pow_right (by decide) h1)
  obtain ⟨j, hj⟩ := List.getElem?_of_mem hd
  have h2 := (h.node j d hj).2.2.1
  have h3 := h.states
  omega
theorem balanced_ok (t : Tr) (hw : t.Wf) : PureR E.C 12 [t.av] (BalPost t) := by
  refine PureR.of_empty plain t.noBlks ?_
  obtain ⟨st, ⟨hnl, hcap, hood⟩, ⟨nnl, ncap, nodes⟩⟩ := t
  have hright := right_ok _ hw
  have hcle := @cnts_le ⟨st, ⟨hnl, hcap, hood⟩, ⟨nnl, ncap, nodes⟩⟩
  dsimp only [Tr.av, Tr.cells, Sl.av, cnts] at hright hcle ⊢
  refine ACall.of_body E_ok.ok Tryz.func12 rfl (by kernel_rfl) ?_
  have hn00 : AH.empty.next = 0 := rfl
  refine AWp.seq ?_
  refine AWp.region E_ok.ok ?_
  refine s_newG rfl rfl (nv_box rfl rfl) ?_
  intro A0x0 hn0x0 hg0x0 hk0x0
  refine s_pure rfl rfl (pv_asg rfl) ?_
  refine s_pure rfl rfl (pv_asg rfl) ?_
  refine s_nil ?_
  refine AWp.seq ?_
  refine AWp.seq ?_
  refine AWp.region E_ok.ok ?_
  first | refine s_imm rfl rfl (rv_loadi rfl (part_agg T25 rfl rfl rfl)) ?_ | refine s_read rfl rfl (rv_load rfl) hg0x0 (part_agg T25 rfl rfl rfl) ?_
  refine s_callp rfl rfl rfl hright ?_
  intro r hr
  rcases bool_split hr with ⟨rfl, hok⟩ | ⟨rfl, hok⟩
  · skip
    refine s_pure rfl rfl (pv_un rfl rfl) ?_
    refine s_nil ?_
    refine AWp.cond (b := false) rfl (fun h => by cases h) (fun _ => ?_)
    refine AWp.skip ?_
    refine AWp.seq ?_
    refine AWp.region E_ok.ok ?_
    have hT := tb_iff.1 hok
    have hTs := hT.states
    have hTh := hT.hood
    have hTn := hT.size
    have hTr := hT.root
    have hTo := hT.node
    have hcle1 := hcle hT
    dsimp only at hTs hTh hTn hTr hcle1
    obtain ⟨S, hS⟩ : ∃ S : Nat, st = S := ⟨st.toNat, by omega⟩
    have hSt : st.toNat = S := by omega
    obtain ⟨z, hz⟩ := get_some (show nodes.length - 1 < nodes.length by omega)
    have hzl := hTr z hz
    have hzz : (nodes.length : Int) - 1 = (nodes.length - 1 : Nat) := by omega
    rw [hSt] at hcle1
    have hv0 : ((List.range S).map (wl nodes hood.length (nodes.length - 1)))[0]? = some (wl nodes hood.length (nodes.length - 1) 0) := get_range (by omega)
    refine s_read rfl rfl (rv_load rfl) hg0x0 (part_agg T25 rfl rfl rfl) ?_
    refine s_newG rfl rfl (nv_map) ?_
    intro A3x1 hn3x1 hg3x1 hk3x1
    replace hg0x0 := hk3x1 _ _ (by omega) hg0x0
    refine s_pure rfl rfl (pv_build (pl := [(0, 3), (3, 1)]) T67 rfl rfl (by show omap _ [_, _] = some _; simp only [omap, T25, T65, Option.map_some]; rfl) rfl) ?_
    refine s_newG rfl rfl (nv_box rfl rfl) ?_
    intro A3x3 hn3x3 hg3x3 hk3x3
    replace hg0x0 := hk3x3 _ _ (by omega) hg0x0
    replace hg3x1 := hk3x3 _ _ (by omega) hg3x1
    refine s_pure rfl rfl (pv_asg rfl) ?_
    refine s_nil ?_
    refine AWp.seq ?_
    refine AWp.region E_ok.ok ?_
    refine s_pure rfl rfl (pv_mov rfl) ?_
    first | refine s_pure rfl rfl (pv_fld T25 rfl rfl T23 (by decide) rfl) ?_ | refine s_pure rfl rfl (pv_fldi T25 rfl rfl T23 (by decide) rfl) ?_
    first | refine s_imm rfl rfl (rv_loadi rfl (part_sc T23 rfl rfl)) ?_ | refine s_read rfl rfl (rv_load rfl) hg3x3 (part_sc T23 rfl rfl) ?_ | refine s_read rfl rfl (rv_load rfl) hg3x1 (part_sc T23 rfl rfl) ?_ | refine s_read rfl rfl (rv_load rfl) hg0x0 (part_sc T23 rfl rfl) ?_
    first | refine s_pure rfl rfl (pv_len T23 rfl rfl) ?_ | refine s_pure rfl rfl (pv_len_sl T23 rfl rfl) ?_
    refine s_pure rfl rfl (pv_sub rfl rfl (by omega) (by omega)) ?_
    rw [hzz]
    refine s_call rfl rfl rfl (count_ok st hnl hcap hood nnl ncap nodes S hS (by omega) hTh.2.1 hTn.2 hTo hood.length (nodes.length - 1) z _ _ _ [] hz (by omega) hg3x3 hg3x1 (by omega) (by omega) (by omega) (fun e he => by cases he)) ?_
    rintro r A4 ⟨_, HK4, y, cap4, cs4, hy, rfl, hcs4⟩
    have hn4 := HK4.next
    have hzy : y = z := by
      have : nodes[nodes.length - 1]? = some y := hy
      rw [hz] at this; exact (Option.some.inj this).symm
    subst hzy
    rw [show y.level.toNat = hood.length by omega] at hcs4
    replace hcs4 : IsBs ((List.range S).map (wl nodes hood.length (nodes.length - 1))) cs4 := hcs4
    replace hg0x0 := HK4.get _ _ (by omega) (by omega) hg0x0
    clear hg3x1 hg3x3
    refine s_newG rfl rfl (nv_alloc T37 rfl) ?_
    intro A4x6 hn4x6 hg4x6 hk4x6
    replace hg0x0 := hk4x6 _ _ (by omega) hg0x0
    first | refine s_putG rfl rfl (ev_store T37 rfl rfl (by intro vs h; cases h) (hg4x6) rfl (by first | exact Nat.le_of_ble_eq_true rfl | (simp; omega)) rfl) ?_ | refine s_putG rfl rfl (ev_store T37 rfl rfl (by intro vs h; cases h) (hg0x0) rfl (by first | exact Nat.le_of_ble_eq_true rfl | (simp; omega)) rfl) ?_
    intro A4x7 hn4x7 hg4x7 hk4x7
    first | replace hg0x0 := hk4x7 _ _ (by omega) hg0x0 | skip
    first | replace hg4x6 := hk4x7 _ _ (by omega) hg4x6 | skip
    refine s_nil ?_
    refine AWp.seq ?_
    refine AWp.region E_ok.ok ?_
    first | refine s_imm rfl rfl (rv_loadi rfl (part_sc T37 rfl rfl)) ?_ | refine s_read rfl rfl (rv_load rfl) hg4x7 (part_sc T37 rfl rfl) ?_ | refine s_read rfl rfl (rv_load rfl) hg4x6 (part_sc T37 rfl rfl) ?_ | refine s_read rfl rfl (rv_load rfl) hg0x0 (part_sc T37 rfl rfl) ?_
    refine s_pure rfl rfl (rfl) ?_
    refine s_call rfl rfl rfl (containsF_ok _ _ S cap4 cs4 _ _ (fun v hv => Nat.le_trans (hcle1 v hv) (by decide)) hcs4 hv0 (by simp) (by omega) hg4x7 (by omega)) ?_
    rintro _ A5 ⟨hgr5, rfl⟩
    replace hg4x7 := hgr5.get _ _ (by omega) hg4x7
    clear hg0x0 hg4x6
    refine s_pure rfl rfl (pv_un rfl rfl) ?_
    refine s_pure rfl rfl (pv_asg rfl) ?_
    refine s_nil ?_
    refine AWp.seq ?_
    refine AWp.region E_ok.ok ?_
    refine s_pure rfl rfl (pv_mov rfl) ?_
    first | refine s_imm rfl rfl (rv_loadi rfl (part_sc T37 rfl rfl)) ?_ | refine s_read rfl rfl (rv_load rfl) hg4x7 (part_sc T37 rfl rfl) ?_
    refine s_callp rfl rfl rfl (clone_ok _ S cap4 cs4 hcs4 (by simp) (by omega) (by omega)) ?_
    rintro _ ⟨cap6, rfl⟩
    refine s_pure rfl rfl (pv_asg rfl) ?_
    refine s_pure rfl rfl (pv_asg rfl) ?_
    refine s_nil ?_
    refine AWp.ret ?_
    refine leaf_ok rfl (by simp [noBlk, noBlks, hcs4.noBlks]) (.inr ⟨hT, cap6, cs4, ?_, ?_⟩)
    · dsimp only [cnts]; rw [hSt]; exact hcs4
    · dsimp only [cnts]; rw [hSt]
  · skip
    refine s_pure rfl rfl (pv_un rfl rfl) ?_
    refine s_nil ?_
    refine AWp.cond (b := true) rfl (fun _ => ?_) (fun h => by cases h)
    refine AWp.seq ?_
    refine AWp.region E_ok.ok ?_
    refine s_pure rfl rfl (pv_asg rfl) ?_
    refine s_pure rfl rfl (pv_asg rfl) ?_
    refine s_nil ?_
    refine AWp.ret ?_
    exact leaf_ok rfl rfl (.inl ⟨fun h => (by rw [tb_true h] at hok; cases hok), rfl⟩)
end Go.Am.Seat

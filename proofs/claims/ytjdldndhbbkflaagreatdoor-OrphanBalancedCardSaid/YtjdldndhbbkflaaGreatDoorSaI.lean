/- A part of the proof about cellularlaw49.OrphanBalanced: lemmas only; what they say is theirs alone and no condition of the claim. -/
import Derived.Test.YtjdldndhbbkflaaGreatDoorSaF
set_option autoImplicit false
set_option linter.unusedVariables false
set_option linter.unusedSimpArgs false
set_option maxRecDepth 100000
noncomputable section
namespace Go.Am.Seat
open Go Go.Am Go.Proofs
/-! ## big integers of the reference: bytes -/
def encI (d : Nat) : AV := .int .i64 (d : Int)
def vI (nl : Bool) (cap : Option Nat) (l : List Nat) : AV := .vec nl l.length cap (l.map encI)
theorem noBlks_I (l : List Nat) : noBlks (l.map encI) = true := noBlks_map (fun _ => rfl) l
theorem scI (l : List Nat) : (l.map encI).all AV.sc = true := by simp [List.all_map, encI, AV.sc]
theorem digitR_ok (nl : Bool) (cap : Option Nat) (l : List Nat) (k : Nat) : PureR E.C 42 [vI nl cap l, .int .i64 (k : Int)] (fun r => r = .int .i64 (l.getD k 0 : Nat)) := by
  refine PureR.of_empty plain (by simp [vI, noBlks, noBlk, noBlks_I]) ?_
  refine ACall.of_body E_ok.ok Tryz.func42 rfl (by kernel_rfl) ?_
  dsimp only [vI]
  refine AWp.seq ?_
  refine AWp.region E_ok.ok ?_
  refine s_pure rfl rfl (pv_asg rfl) ?_
  refine s_nil ?_
  refine AWp.seq ?_
  refine AWp.seq ?_
  refine AWp.region E_ok.ok ?_
  refine s_pure rfl rfl (pv_mov rfl) ?_
  refine s_pure rfl rfl (pv_mov rfl) ?_
  first | refine s_pure rfl rfl (pv_len T29 rfl rfl) ?_ | refine s_pure rfl rfl (pv_len_sl T29 rfl rfl) ?_
  refine s_splitP rfl rfl (pv_int rfl rfl rfl) decide_eq_true_iff ?_ ?_
  · intro h1x3
    obtain ⟨d, hd⟩ := get_some (show k < l.length by omega)
    have hkk : (k : Int) = k := rfl
    refine s_nil ?_
    refine AWp.cond (b := true) rfl (fun _ => ?_) (fun h => by cases h)
    refine AWp.seq ?_
    refine AWp.region E_ok.ok ?_
    refine s_pure rfl rfl (pv_mov rfl) ?_
    refine s_pure rfl rfl (pv_mov rfl) ?_
    first | refine s_pure rfl rfl (pv_idx T29 rfl T3 rfl rfl (by omega) (by omega) (drop_map hkk hd)) ?_ | refine s_pure rfl rfl (pv_idx_sl T29 rfl T3 rfl rfl (by omega) (by omega)) ?_
    first | refine s_imm rfl rfl (rv_loadi rfl (part_sc T3 rfl rfl)) ?_ | refine s_read rfl rfl (rv_load rfl) (rfl) (part_sc T3 rfl rfl) ?_
    refine s_pure rfl rfl (pv_asg rfl) ?_
    refine s_nil ?_
    refine AWp.ret ?_
    exact leaf_ok rfl rfl (by show AV.int _ _ = _; rw [List.getD_eq_getElem?_getD, hd]; rfl)
  · intro h1x3
    refine s_nil ?_
    refine AWp.cond (b := false) rfl (fun h => by cases h) (fun _ => ?_)
    refine AWp.skip ?_
    refine AWp.seq ?_
    refine AWp.region E_ok.ok ?_
    refine s_pure rfl rfl (pv_asg rfl) ?_
    refine s_nil ?_
    refine AWp.ret ?_
    exact leaf_ok rfl rfl (by show AV.int _ _ = _; rw [List.getD_eq_getElem?_getD, List.getElem?_eq_none (by omega)]; rfl)
theorem trimR_ok (nl : Bool) (cap : Option Nat) (l : List Nat) (hc : CapOk l.length cap) (hl : l.length ≤ 1000000) : PureR E.C 61 [vI nl cap l] (fun r => r = vI nl (some (PB.trimZ l).length) (PB.trimZ l)) := by
  refine PureR.of_empty plain (by simp [vI, noBlks, noBlk, noBlks_I]) ?_
  refine ACall.of_body E_ok.ok Tryz.func61 rfl (by kernel_rfl) ?_
  dsimp only [vI]
  refine AWp.seq ?_
  refine AWp.region E_ok.ok ?_
  refine s_pure rfl rfl (pv_asg rfl) ?_
  refine s_nil ?_
  refine AWp.seq ?_
  refine AWp.region E_ok.ok ?_
  refine s_pure rfl rfl (pv_mov rfl) ?_
  first | refine s_pure rfl rfl (pv_len T29 rfl rfl) ?_ | refine s_pure rfl rfl (pv_len_sl T29 rfl rfl) ?_
  refine s_pure rfl rfl (pv_asg rfl) ?_
  refine s_nil ?_
  refine AWp.seq ?_
  refine AWp.block ?_
  refine AWp.loop (σ := {s : Nat × AH // s.1 ≤ l.length ∧ ∀ j d, s.1 ≤ j → l[j]? = some d → d = 0}) (fun s => frL 22 [(0, .vec nl l.length cap (l.map encI)), (3, .int .i64 s.1.1)]) (fun s => s.1.2) (fun s => s.1.1) ⟨(l.length, AH.empty), by simp, fun j d h1 h2 => by have := (List.getElem?_eq_some_iff.1 h2).1; dsimp only at h1; omega⟩ (Weak.frL rfl ⟨rfl, rfl, trivial⟩) ?_
  rintro ⟨⟨k, A⟩, hk, hinv⟩
  dsimp only at hk hinv ⊢
  refine AWp.seq ?_
  refine AWp.seq ?_
  refine AWp.region E_ok.ok ?_
  refine s_pure rfl rfl (pv_mov rfl) ?_
  refine s_splitP rfl rfl (pv_int rfl rfl rfl) decide_eq_true_iff ?_ ?_
  · intro h2x1
    obtain ⟨d, hd⟩ := get_some (show k - 1 < l.length by omega)
    have hkk : (k : Int) - 1 = (k - 1 : Nat) := by omega
    refine s_pure rfl rfl (pv_mov rfl) ?_
    refine s_pure rfl rfl (pv_mov rfl) ?_
    refine s_pure rfl rfl (pv_mov rfl) ?_
    refine s_pure rfl rfl (pv_sub rfl rfl (by omega) (by omega)) ?_
    first | refine s_pure rfl rfl (pv_idx T29 rfl T3 rfl rfl (by omega) (by omega) (drop_map hkk hd)) ?_ | refine s_pure rfl rfl (pv_idx_sl T29 rfl T3 rfl rfl (by omega) (by omega)) ?_
    first | refine s_imm rfl rfl (rv_loadi rfl (part_sc T3 rfl rfl)) ?_ | refine s_read rfl rfl (rv_load rfl) (rfl) (part_sc T3 rfl rfl) ?_
    refine s_splitP rfl rfl (pv_int rfl rfl rfl) beq_iff_eq ?_ ?_
    · intro h2x8
      first | refine s_pure rfl rfl (pv_pickT rfl rfl) ?_ | refine s_pure rfl rfl (pv_pickF rfl rfl) ?_
      refine s_nil ?_
      refine AWp.cond (b := true) rfl (fun _ => ?_) (fun h => by cases h)
      refine AWp.skip ?_
      refine AWp.block ?_
      refine AWp.region E_ok.ok ?_
      refine s_pure rfl rfl (pv_mov rfl) ?_
      refine s_pure rfl rfl (pv_sub rfl rfl (by omega) (by omega)) ?_
      refine s_pure rfl rfl (pv_asg rfl) ?_
      refine s_nil ?_
      have hnext : ∀ j e, k - 1 ≤ j → l[j]? = some e → e = 0 := by
        intro j e h1 h2
        by_cases ej : j = k - 1
        · subst ej; rw [hd] at h2; cases h2; omega
        · exact hinv j e (by omega) h2
      exact ⟨⟨(k - 1, A), by dsimp only; omega, hnext⟩, by dsimp only; omega, Weak.frL rfl ⟨rfl, int_eq (by dsimp only; omega), trivial⟩⟩
    · intro h2x8
      first | refine s_pure rfl rfl (pv_pickT rfl rfl) ?_ | refine s_pure rfl rfl (pv_pickF rfl rfl) ?_
      refine s_nil ?_
      refine AWp.cond (b := false) rfl (fun h => by cases h) (fun _ => ?_)
      refine AWp.exit ?_
      refine AWp.seq ?_
      refine AWp.region E_ok.ok ?_
      refine s_pure rfl rfl (pv_mov rfl) ?_
      refine s_pure rfl rfl (pv_mov rfl) ?_
      refine s_pure rfl rfl (pv_mov rfl) ?_
      refine s_pure rfl rfl (pv_take3 T29 rfl T3 rfl rfl rfl (by omega) (by omega) rfl (hc)) ?_
      refine s_pure rfl rfl (pv_asg rfl) ?_
      refine s_nil ?_
      refine AWp.ret ?_
      have e : PB.trimZ l = l.take k := PB.trimZ_take hk hinv (by first | exact .inl (by omega) | exact .inr ⟨d, hd, by omega⟩)
      have e1 : (k : Int).toNat * ty3.size = k := by show (k : Int).toNat * 1 = k; omega
      refine leaf_ok rfl (by simp [noBlk, noBlks_I, ← List.map_take]) ?_
      show AV.vec _ _ _ _ = _
      simp only [e, List.length_take, Nat.min_eq_left hk, ← List.map_take, e1]; rfl
  · intro h2x1
    refine s_pure rfl rfl (pv_mov rfl) ?_
    refine s_skip rfl rfl ?_
    refine s_skip rfl rfl ?_
    refine s_skip rfl rfl ?_
    refine s_skip rfl rfl ?_
    refine s_skip rfl rfl ?_
    refine s_skip rfl rfl ?_
    first | refine s_pure rfl rfl (pv_pickT rfl rfl) ?_ | refine s_pure rfl rfl (pv_pickF rfl rfl) ?_
    refine s_nil ?_
    refine AWp.cond (b := false) rfl (fun h => by cases h) (fun _ => ?_)
    refine AWp.exit ?_
    refine AWp.seq ?_
    refine AWp.region E_ok.ok ?_
    refine s_pure rfl rfl (pv_mov rfl) ?_
    refine s_pure rfl rfl (pv_mov rfl) ?_
    refine s_pure rfl rfl (pv_mov rfl) ?_
    refine s_pure rfl rfl (pv_take3 T29 rfl T3 rfl rfl rfl (by omega) (by omega) rfl (hc)) ?_
    refine s_pure rfl rfl (pv_asg rfl) ?_
    refine s_nil ?_
    refine AWp.ret ?_
    have e : PB.trimZ l = l.take k := PB.trimZ_take hk hinv (by first | exact .inl (by omega) | exact .inr ⟨d, hd, by omega⟩)
    have e1 : (k : Int).toNat * ty3.size = k := by show (k : Int).toNat * 1 = k; omega
    refine leaf_ok rfl (by simp [noBlk, noBlks_I, ← List.map_take]) ?_
    show AV.vec _ _ _ _ = _
    simp only [e, List.length_take, Nat.min_eq_left hk, ← List.map_take, e1]; rfl
theorem lessR_ok (a b : Nat) (nl nl' : Bool) (cap cap' : Option Nat) (ha : (PB.dig 256 a).length ≤ 1000000) (hb : (PB.dig 256 b).length ≤ 1000000) :
    PureR E.C 39 [vI nl cap (PB.dig 256 a), vI nl' cap' (PB.dig 256 b)] (fun r => r = .bool (decide (a < b))) := by
  have h2 : 2 ≤ 256 := by decide
  have va := PB.val_dig h2 a; have vb := PB.val_dig h2 b
  have ta := PB.trimZ_dig h2 a; have tb := PB.trimZ_dig h2 b
  have da := PB.dig_lt h2 a; have db := PB.dig_lt h2 b
  generalize PB.dig 256 a = l at *
  generalize PB.dig 256 b = m at *
  refine PureR.of_empty plain (by simp [vI, noBlks, noBlk, noBlks_I]) ?_
  refine ACall.of_body E_ok.ok Tryz.func39 rfl (by kernel_rfl) ?_
  dsimp only [vI]
  refine AWp.seq ?_
  refine AWp.region E_ok.ok ?_
  refine s_pure rfl rfl (pv_asg rfl) ?_
  refine s_nil ?_
  refine AWp.seq ?_
  refine AWp.seq ?_
  refine AWp.region E_ok.ok ?_
  refine s_pure rfl rfl (pv_mov rfl) ?_
  first | refine s_pure rfl rfl (pv_len T29 rfl rfl) ?_ | refine s_pure rfl rfl (pv_len_sl T29 rfl rfl) ?_
  refine s_pure rfl rfl (pv_mov rfl) ?_
  first | refine s_pure rfl rfl (pv_len T29 rfl rfl) ?_ | refine s_pure rfl rfl (pv_len_sl T29 rfl rfl) ?_
  refine s_splitP rfl rfl (pv_int rfl rfl rfl) bne_iff_ne ?_ ?_
  · intro h1x4
    refine s_nil ?_
    refine AWp.cond (b := true) rfl (fun _ => ?_) (fun h => by cases h)
    refine AWp.seq ?_
    refine AWp.region E_ok.ok ?_
    refine s_pure rfl rfl (pv_mov rfl) ?_
    first | refine s_pure rfl rfl (pv_len T29 rfl rfl) ?_ | refine s_pure rfl rfl (pv_len_sl T29 rfl rfl) ?_
    refine s_pure rfl rfl (pv_mov rfl) ?_
    first | refine s_pure rfl rfl (pv_len T29 rfl rfl) ?_ | refine s_pure rfl rfl (pv_len_sl T29 rfl rfl) ?_
    refine s_splitP rfl rfl (pv_int rfl rfl rfl) decide_eq_true_iff ?_ ?_
    · intro h2x4
      have := PB.val_lt_len h2 da tb (by omega)
      refine s_pure rfl rfl (pv_asg rfl) ?_
      refine s_nil ?_
      refine AWp.ret ?_
      first
        | exact leaf_ok rfl rfl (by show AV.bool true = _; rw [decide_eq_true (show a < b by omega)])
        | exact leaf_ok rfl rfl (by show AV.bool false = _; rw [decide_eq_false (show ¬ a < b by omega)])
    · intro h2x4
      have := PB.val_lt_len h2 db ta (by omega)
      refine s_pure rfl rfl (pv_asg rfl) ?_
      refine s_nil ?_
      refine AWp.ret ?_
      first
        | exact leaf_ok rfl rfl (by show AV.bool true = _; rw [decide_eq_true (show a < b by omega)])
        | exact leaf_ok rfl rfl (by show AV.bool false = _; rw [decide_eq_false (show ¬ a < b by omega)])
  · intro h1x4
    refine s_nil ?_
    refine AWp.cond (b := false) rfl (fun h => by cases h) (fun _ => ?_)
    refine AWp.skip ?_
    refine AWp.seq ?_
    refine AWp.seq ?_
    refine AWp.region E_ok.ok ?_
    refine s_pure rfl rfl (pv_mov rfl) ?_
    first | refine s_pure rfl rfl (pv_len T29 rfl rfl) ?_ | refine s_pure rfl rfl (pv_len_sl T29 rfl rfl) ?_
    refine s_pure rfl rfl (pv_sub rfl rfl (by omega) (by omega)) ?_
    refine s_pure rfl rfl (pv_asg rfl) ?_
    refine s_nil ?_
    refine AWp.block ?_
    refine AWp.loop (σ := {s : Nat × AH // s.1 ≤ l.length ∧ ∀ j, s.1 ≤ j → l[j]? = m[j]?}) (fun s => frL 41 [(0, .vec nl l.length cap (l.map encI)), (1, .vec nl' m.length cap' (m.map encI)), (5, .int .i64 (s.1.1 - 1))]) (fun s => s.1.2) (fun s => s.1.1) ⟨(l.length, AH.empty), by simp, fun j hj => by rw [List.getElem?_eq_none (by dsimp only at hj; omega), List.getElem?_eq_none (by dsimp only at hj; omega)]⟩ (Weak.frL rfl ⟨rfl, rfl, rfl, trivial⟩) ?_
    rintro ⟨⟨k, A⟩, hk, hinv⟩
    dsimp only at hk hinv ⊢
    refine AWp.seq ?_
    refine AWp.seq ?_
    refine AWp.region E_ok.ok ?_
    refine s_pure rfl rfl (pv_mov rfl) ?_
    refine s_splitP rfl rfl (pv_int rfl rfl rfl) decide_eq_true_iff ?_ ?_
    · intro h4x1
      obtain ⟨d, hd⟩ := get_some (show k - 1 < l.length by omega)
      obtain ⟨e, he⟩ := get_some (show k - 1 < m.length by omega)
      have hkk : (k : Int) - 1 = (k - 1 : Nat) := by omega
      refine s_nil ?_
      refine AWp.cond (b := true) rfl (fun _ => ?_) (fun h => by cases h)
      refine AWp.skip ?_
      refine AWp.seq ?_
      refine AWp.block ?_
      refine AWp.seq ?_
      refine AWp.drawq E_ok.ok (ord := [0, 1, 2, 3, 4, 5, 6, 7, 8]) (by kernel_rfl) ?_
      refine q_pure rfl rfl rfl rfl (pv_mov rfl) ?_
      refine q_pure rfl rfl rfl rfl (pv_mov rfl) ?_
      first | refine q_pure rfl rfl rfl rfl (pv_idx T29 rfl T3 rfl rfl (by omega) (by omega) (drop_map hkk hd)) ?_ | refine q_pure rfl rfl rfl rfl (pv_idx_sl T29 rfl T3 rfl rfl (by omega) (by omega)) ?_
      first | refine q_imm rfl rfl rfl rfl (rv_loadi rfl (part_sc T3 rfl rfl)) ?_ | refine q_read rfl rfl rfl rfl (rv_load rfl) (rfl) (part_sc T3 rfl rfl) ?_
      refine q_pure rfl rfl rfl rfl (pv_mov rfl) ?_
      refine q_pure rfl rfl rfl rfl (pv_mov rfl) ?_
      first | refine q_pure rfl rfl rfl rfl (pv_idx T29 rfl T3 rfl rfl (by omega) (by omega) (drop_map hkk he)) ?_ | refine q_pure rfl rfl rfl rfl (pv_idx_sl T29 rfl T3 rfl rfl (by omega) (by omega)) ?_
      first | refine q_imm rfl rfl rfl rfl (rv_loadi rfl (part_sc T3 rfl rfl)) ?_ | refine q_read rfl rfl rfl rfl (rv_load rfl) (rfl) (part_sc T3 rfl rfl) ?_
      refine q_splitP rfl rfl rfl rfl (pv_int rfl rfl rfl) bne_iff_ne ?_ ?_
      · intro h6x8
        first | refine q_nil0 ?_ | refine q_nil ?_
        refine AWp.cond (b := true) rfl (fun _ => ?_) (fun h => by cases h)
        refine AWp.seq ?_
        refine AWp.drawq E_ok.ok (ord := [0, 1, 2, 3, 4, 5, 6, 7, 8, 9]) (by kernel_rfl) ?_
        refine q_pure rfl rfl rfl rfl (pv_mov rfl) ?_
        refine q_pure rfl rfl rfl rfl (pv_mov rfl) ?_
        first | refine q_pure rfl rfl rfl rfl (pv_idx T29 rfl T3 rfl rfl (by omega) (by omega) (drop_map hkk hd)) ?_ | refine q_pure rfl rfl rfl rfl (pv_idx_sl T29 rfl T3 rfl rfl (by omega) (by omega)) ?_
        first | refine q_imm rfl rfl rfl rfl (rv_loadi rfl (part_sc T3 rfl rfl)) ?_ | refine q_read rfl rfl rfl rfl (rv_load rfl) (rfl) (part_sc T3 rfl rfl) ?_
        refine q_pure rfl rfl rfl rfl (pv_mov rfl) ?_
        refine q_pure rfl rfl rfl rfl (pv_mov rfl) ?_
        first | refine q_pure rfl rfl rfl rfl (pv_idx T29 rfl T3 rfl rfl (by omega) (by omega) (drop_map hkk he)) ?_ | refine q_pure rfl rfl rfl rfl (pv_idx_sl T29 rfl T3 rfl rfl (by omega) (by omega)) ?_
        first | refine q_imm rfl rfl rfl rfl (rv_loadi rfl (part_sc T3 rfl rfl)) ?_ | refine q_read rfl rfl rfl rfl (rv_load rfl) (rfl) (part_sc T3 rfl rfl) ?_
        refine q_splitP rfl rfl rfl rfl (pv_int rfl rfl rfl) decide_eq_true_iff ?_ ?_
        · intro h7x8
          have := PB.val_lt_at da (by omega) (fun j hj => hinv j (by omega)) hd he (by omega)
          refine q_pure rfl rfl rfl rfl (pv_asg rfl) ?_
          first | refine q_nil0 ?_ | refine q_nil ?_
          refine AWp.ret ?_
          first
            | exact leaf_ok rfl rfl (by show AV.bool true = _; rw [decide_eq_true (show a < b by omega)])
            | exact leaf_ok rfl rfl (by show AV.bool false = _; rw [decide_eq_false (show ¬ a < b by omega)])
        · intro h7x8
          have := PB.val_lt_at db (by omega) (fun j hj => (hinv j (by omega)).symm) he hd (by omega)
          refine q_pure rfl rfl rfl rfl (pv_asg rfl) ?_
          first | refine q_nil0 ?_ | refine q_nil ?_
          refine AWp.ret ?_
          first
            | exact leaf_ok rfl rfl (by show AV.bool true = _; rw [decide_eq_true (show a < b by omega)])
            | exact leaf_ok rfl rfl (by show AV.bool false = _; rw [decide_eq_false (show ¬ a < b by omega)])
      · intro h6x8
        first | refine q_nil0 ?_ | refine q_nil ?_
        refine AWp.cond (b := false) rfl (fun h => by cases h) (fun _ => ?_)
        refine AWp.skip ?_
        refine AWp.region E_ok.ok ?_
        refine s_pure rfl rfl (pv_mov rfl) ?_
        refine s_pure rfl rfl (pv_sub rfl rfl (by omega) (by omega)) ?_
        refine s_pure rfl rfl (pv_asg rfl) ?_
        refine s_nil ?_
        refine ⟨⟨(k - 1, A), by dsimp only; omega, fun j hj => ?_⟩, by dsimp only; omega, Weak.frL rfl ⟨rfl, rfl, int_eq (by dsimp only; omega), trivial⟩⟩
        by_cases ej : j = k - 1
        · subst ej; rw [hd, he]; congr 1; omega
        · exact hinv j (by dsimp only at hj; omega)
    · intro h4x1
      refine s_nil ?_
      refine AWp.cond (b := false) rfl (fun h => by cases h) (fun _ => ?_)
      refine AWp.exit ?_
      refine AWp.seq ?_
      refine AWp.region E_ok.ok ?_
      refine s_pure rfl rfl (pv_asg rfl) ?_
      refine s_nil ?_
      refine AWp.ret ?_
      have e : l = m := List.ext_getElem? fun j => hinv j (by omega)
      exact leaf_ok rfl rfl (by show AV.bool false = _; rw [← va, ← vb, e]; simp)
theorem plusR_ok (nl nl' : Bool) (cap cap' : Option Nat) (l m : List Nat) (hl : l.length ≤ 100000) (hm : m.length ≤ 100000) (dl : ∀ d ∈ l, d < 256) (dm : ∀ d ∈ m, d < 256) :
    PureR E.C 40 [vI nl cap l, vI nl' cap' m] (fun r => ∃ nl cap out, CapOk out.length cap ∧ r = vI nl cap out ∧ out.length ≤ 100001 ∧ (∀ d ∈ out, d < 256) ∧ PB.val 256 out = PB.val 256 l + PB.val 256 m) := by
  refine PureR.of_empty plain (by simp [vI, noBlks, noBlk, noBlks_I]) ?_
  refine ACall.of_body E_ok.ok Tryz.func40 rfl (by kernel_rfl) ?_
  have hdig := digitR_ok
  have h2 : 2 ≤ 256 := by decide
  dsimp only [vI] at hdig ⊢
  refine AWp.seq ?_
  refine AWp.region E_ok.ok ?_
  refine s_pure rfl rfl (pv_asg rfl) ?_
  refine s_nil ?_
  refine AWp.seq ?_
  refine AWp.region E_ok.ok ?_
  refine s_pure rfl rfl (pv_asg rfl) ?_
  refine s_nil ?_
  refine AWp.seq ?_
  refine AWp.region E_ok.ok ?_
  refine s_pure rfl rfl (pv_asg rfl) ?_
  refine s_nil ?_
  refine AWp.seq ?_
  refine AWp.seq ?_
  refine AWp.region E_ok.ok ?_
  refine s_pure rfl rfl (pv_asg rfl) ?_
  refine s_nil ?_
  refine AWp.block ?_
  refine AWp.loop (σ := {s : Nat × AV × AH // s.1 ≤ max l.length m.length + 1 ∧ ∃ hi, Own 1 0 hi s.2.2 s.2.1 s.1 (((List.range s.1).map (PB.sdig 256 l m)).map encI)})
    (fun s => frL 42 [(0, .vec nl l.length cap (l.map encI)), (1, .vec nl' m.length cap' (m.map encI)), (5, s.1.2.1), (6, .int .i64 (PB.cry 256 l m s.1.1 : Nat)), (7, .int .i64 s.1.1)]) (fun s => s.1.2.2) (fun s => max l.length m.length + 1 - s.1.1)
    ⟨(0, _, _), Nat.zero_le _, 0, .nil (nl := true) (Nat.le_refl _) (Nat.le_refl _)⟩ (Weak.frL rfl ⟨rfl, rfl, rfl, rfl, rfl, trivial⟩) ?_
  rintro ⟨⟨k, v, A⟩, hk, hi, hO⟩
  dsimp only at hk hO ⊢
  have hn0 := hO.next
  have c1 := PB.cry_le h2 dl dm k
  have g1 := PB.getD_lt (show 0 < 256 by decide) dl k
  have g2 := PB.getD_lt (show 0 < 256 by decide) dm k
  have ce := fun a b => PB.cry_end h2 dl dm (n := k) a b
  refine AWp.seq ?_
  refine AWp.seq ?_
  refine AWp.region E_ok.ok ?_
  refine s_pure rfl rfl (pv_mov rfl) ?_
  refine s_pure rfl rfl (pv_mov rfl) ?_
  first | refine s_pure rfl rfl (pv_len T29 rfl rfl) ?_ | refine s_pure rfl rfl (pv_len_sl T29 rfl rfl) ?_
  refine s_splitP rfl rfl (pv_int rfl rfl rfl) decide_eq_true_iff ?_ ?_
  · intro h4x3
    refine s_pure rfl rfl (pv_mov rfl) ?_
    refine s_skip rfl rfl ?_
    refine s_skip rfl rfl ?_
    refine s_skip rfl rfl ?_
    refine s_skip rfl rfl ?_
    first | refine s_pure rfl rfl (pv_pickT rfl rfl) ?_ | refine s_pure rfl rfl (pv_pickF rfl rfl) ?_
    refine s_pure rfl rfl (pv_mov rfl) ?_
    refine s_skip rfl rfl ?_
    refine s_skip rfl rfl ?_
    first | refine s_pure rfl rfl (pv_pickT rfl rfl) ?_ | refine s_pure rfl rfl (pv_pickF rfl rfl) ?_
    refine s_nil ?_
    refine AWp.cond (b := true) rfl (fun _ => ?_) (fun h => by cases h)
    refine AWp.skip ?_
    refine AWp.seq ?_
    refine AWp.block ?_
    refine AWp.seq ?_
    refine AWp.region E_ok.ok ?_
    refine s_pure rfl rfl (pv_mov rfl) ?_
    refine s_pure rfl rfl (pv_mov rfl) ?_
    have hlt : k < max l.length m.length + 1 := by
      rcases Nat.lt_or_ge k (max l.length m.length + 1) with h | h
      · exact h
      · have := ce (by omega) (by omega); first | omega | (exfalso; omega)
    refine s_callp rfl rfl rfl (hdig nl cap l k) ?_
    rintro _ rfl
    refine s_pure rfl rfl (pv_mov rfl) ?_
    refine s_pure rfl rfl (pv_mov rfl) ?_
    refine s_callp rfl rfl rfl (hdig nl' cap' m k) ?_
    rintro _ rfl
    refine s_pure rfl rfl (pv_add rfl rfl (by omega) (by omega)) ?_
    refine s_pure rfl rfl (pv_mov rfl) ?_
    refine s_pure rfl rfl (pv_add rfl rfl (by omega) (by omega)) ?_
    refine s_pure rfl rfl (pv_asg rfl) ?_
    refine s_nil ?_
    refine AWp.seq ?_
    refine AWp.region E_ok.ok ?_
    refine s_pure rfl rfl (pv_mov rfl) ?_
    refine s_pure rfl rfl (pv_mov rfl) ?_
    refine s_pure rfl rfl (pv_rem rfl rfl (by omega) (by omega)) ?_
    refine s_newG rfl rfl (nv_bs T29 rfl T3 ⟨by decide, rfl⟩ rfl rfl rfl) ?_
    intro A7x3 hn7x3 hg7x3 hk7x3
    replace hO := hO.grow hk7x3 (by omega)
    refine s_app rfl rfl (ev_app T29 rfl T3 hO rfl rfl hg7x3 rfl rfl rfl rfl (by show (2 * (_ + 1) + 192) * 8 ≤ 281474976710656; omega) (by omega)) ?_
    clear hO
    intro v7x4 A7x4 hO hk7x4 hn7x4
    refine s_pure rfl rfl (pv_asg rfl) ?_
    refine s_nil ?_
    refine AWp.region E_ok.ok ?_
    refine s_pure rfl rfl (pv_mov rfl) ?_
    refine s_pure rfl rfl (pv_quok (M := 9223372036854775807) rfl rfl rfl (by omega) (by omega) (by omega)) ?_
    refine s_pure rfl rfl (pv_asg rfl) ?_
    refine s_nil ?_
    refine AWp.region E_ok.ok ?_
    refine s_pure rfl rfl (pv_mov rfl) ?_
    refine s_pure rfl rfl (pv_add rfl rfl (by omega) (by omega)) ?_
    refine s_pure rfl rfl (pv_asg rfl) ?_
    refine s_nil ?_
    have hO' : Own 1 0 A7x4.next A7x4 v7x4 (k + 1) (((List.range (k + 1)).map (PB.sdig 256 l m)).map encI) := by
      rw [List.range_succ, List.map_append, List.map_append]
      exact hO
    exact ⟨⟨(k + 1, v7x4, A7x4), by dsimp only; omega, _, hO'⟩, by dsimp only; omega, Weak.frL rfl ⟨rfl, rfl, rfl, rfl, rfl, trivial⟩⟩
  · intro h4x3
    refine s_pure rfl rfl (pv_mov rfl) ?_
    refine s_pure rfl rfl (pv_mov rfl) ?_
    refine s_pure rfl rfl (pv_mov rfl) ?_
    first | refine s_pure rfl rfl (pv_len T29 rfl rfl) ?_ | refine s_pure rfl rfl (pv_len_sl T29 rfl rfl) ?_
    refine s_splitP rfl rfl (pv_int rfl rfl rfl) decide_eq_true_iff ?_ ?_
    · intro h4x8
      first | refine s_pure rfl rfl (pv_pickT rfl rfl) ?_ | refine s_pure rfl rfl (pv_pickF rfl rfl) ?_
      refine s_pure rfl rfl (pv_mov rfl) ?_
      refine s_skip rfl rfl ?_
      refine s_skip rfl rfl ?_
      first | refine s_pure rfl rfl (pv_pickT rfl rfl) ?_ | refine s_pure rfl rfl (pv_pickF rfl rfl) ?_
      refine s_nil ?_
      refine AWp.cond (b := true) rfl (fun _ => ?_) (fun h => by cases h)
      refine AWp.skip ?_
      refine AWp.seq ?_
      refine AWp.block ?_
      refine AWp.seq ?_
      refine AWp.region E_ok.ok ?_
      refine s_pure rfl rfl (pv_mov rfl) ?_
      refine s_pure rfl rfl (pv_mov rfl) ?_
      have hlt : k < max l.length m.length + 1 := by
        rcases Nat.lt_or_ge k (max l.length m.length + 1) with h | h
        · exact h
        · have := ce (by omega) (by omega); first | omega | (exfalso; omega)
      refine s_callp rfl rfl rfl (hdig nl cap l k) ?_
      rintro _ rfl
      refine s_pure rfl rfl (pv_mov rfl) ?_
      refine s_pure rfl rfl (pv_mov rfl) ?_
      refine s_callp rfl rfl rfl (hdig nl' cap' m k) ?_
      rintro _ rfl
      refine s_pure rfl rfl (pv_add rfl rfl (by omega) (by omega)) ?_
      refine s_pure rfl rfl (pv_mov rfl) ?_
      refine s_pure rfl rfl (pv_add rfl rfl (by omega) (by omega)) ?_
      refine s_pure rfl rfl (pv_asg rfl) ?_
      refine s_nil ?_
      refine AWp.seq ?_
      refine AWp.region E_ok.ok ?_
      refine s_pure rfl rfl (pv_mov rfl) ?_
      refine s_pure rfl rfl (pv_mov rfl) ?_
      refine s_pure rfl rfl (pv_rem rfl rfl (by omega) (by omega)) ?_
      refine s_newG rfl rfl (nv_bs T29 rfl T3 ⟨by decide, rfl⟩ rfl rfl rfl) ?_
      intro A7x3 hn7x3 hg7x3 hk7x3
      replace hO := hO.grow hk7x3 (by omega)
      refine s_app rfl rfl (ev_app T29 rfl T3 hO rfl rfl hg7x3 rfl rfl rfl rfl (by show (2 * (_ + 1) + 192) * 8 ≤ 281474976710656; omega) (by omega)) ?_
      clear hO
      intro v7x4 A7x4 hO hk7x4 hn7x4
      refine s_pure rfl rfl (pv_asg rfl) ?_
      refine s_nil ?_
      refine AWp.region E_ok.ok ?_
      refine s_pure rfl rfl (pv_mov rfl) ?_
      refine s_pure rfl rfl (pv_quok (M := 9223372036854775807) rfl rfl rfl (by omega) (by omega) (by omega)) ?_
      refine s_pure rfl rfl (pv_asg rfl) ?_
      refine s_nil ?_
      refine AWp.region E_ok.ok ?_
      refine s_pure rfl rfl (pv_mov rfl) ?_
      refine s_pure rfl rfl (pv_add rfl rfl (by omega) (by omega)) ?_
      refine s_pure rfl rfl (pv_asg rfl) ?_
      refine s_nil ?_
      have hO' : Own 1 0 A7x4.next A7x4 v7x4 (k + 1) (((List.range (k + 1)).map (PB.sdig 256 l m)).map encI) := by
        rw [List.range_succ, List.map_append, List.map_append]
        exact hO
      exact ⟨⟨(k + 1, v7x4, A7x4), by dsimp only; omega, _, hO'⟩, by dsimp only; omega, Weak.frL rfl ⟨rfl, rfl, rfl, rfl, rfl, trivial⟩⟩
    · intro h4x8
      first | refine s_pure rfl rfl (pv_pickT rfl rfl) ?_ | refine s_pure rfl rfl (pv_pickF rfl rfl) ?_
      refine s_pure rfl rfl (pv_mov rfl) ?_
      refine s_pure rfl rfl (pv_mov rfl) ?_
      refine s_splitP rfl rfl (pv_int rfl rfl rfl) decide_eq_true_iff ?_ ?_
      · intro h4x12
        first | refine s_pure rfl rfl (pv_pickT rfl rfl) ?_ | refine s_pure rfl rfl (pv_pickF rfl rfl) ?_
        refine s_nil ?_
        refine AWp.cond (b := true) rfl (fun _ => ?_) (fun h => by cases h)
        refine AWp.skip ?_
        refine AWp.seq ?_
        refine AWp.block ?_
        refine AWp.seq ?_
        refine AWp.region E_ok.ok ?_
        refine s_pure rfl rfl (pv_mov rfl) ?_
        refine s_pure rfl rfl (pv_mov rfl) ?_
        have hlt : k < max l.length m.length + 1 := by
          rcases Nat.lt_or_ge k (max l.length m.length + 1) with h | h
          · exact h
          · have := ce (by omega) (by omega); first | omega | (exfalso; omega)
        refine s_callp rfl rfl rfl (hdig nl cap l k) ?_
        rintro _ rfl
        refine s_pure rfl rfl (pv_mov rfl) ?_
        refine s_pure rfl rfl (pv_mov rfl) ?_
        refine s_callp rfl rfl rfl (hdig nl' cap' m k) ?_
        rintro _ rfl
        refine s_pure rfl rfl (pv_add rfl rfl (by omega) (by omega)) ?_
        refine s_pure rfl rfl (pv_mov rfl) ?_
        refine s_pure rfl rfl (pv_add rfl rfl (by omega) (by omega)) ?_
        refine s_pure rfl rfl (pv_asg rfl) ?_
        refine s_nil ?_
        refine AWp.seq ?_
        refine AWp.region E_ok.ok ?_
        refine s_pure rfl rfl (pv_mov rfl) ?_
        refine s_pure rfl rfl (pv_mov rfl) ?_
        refine s_pure rfl rfl (pv_rem rfl rfl (by omega) (by omega)) ?_
        refine s_newG rfl rfl (nv_bs T29 rfl T3 ⟨by decide, rfl⟩ rfl rfl rfl) ?_
        intro A7x3 hn7x3 hg7x3 hk7x3
        replace hO := hO.grow hk7x3 (by omega)
        refine s_app rfl rfl (ev_app T29 rfl T3 hO rfl rfl hg7x3 rfl rfl rfl rfl (by show (2 * (_ + 1) + 192) * 8 ≤ 281474976710656; omega) (by omega)) ?_
        clear hO
        intro v7x4 A7x4 hO hk7x4 hn7x4
        refine s_pure rfl rfl (pv_asg rfl) ?_
        refine s_nil ?_
        refine AWp.region E_ok.ok ?_
        refine s_pure rfl rfl (pv_mov rfl) ?_
        refine s_pure rfl rfl (pv_quok (M := 9223372036854775807) rfl rfl rfl (by omega) (by omega) (by omega)) ?_
        refine s_pure rfl rfl (pv_asg rfl) ?_
        refine s_nil ?_
        refine AWp.region E_ok.ok ?_
        refine s_pure rfl rfl (pv_mov rfl) ?_
        refine s_pure rfl rfl (pv_add rfl rfl (by omega) (by omega)) ?_
        refine s_pure rfl rfl (pv_asg rfl) ?_
        refine s_nil ?_
        have hO' : Own 1 0 A7x4.next A7x4 v7x4 (k + 1) (((List.range (k + 1)).map (PB.sdig 256 l m)).map encI) := by
          rw [List.range_succ, List.map_append, List.map_append]
          exact hO
        exact ⟨⟨(k + 1, v7x4, A7x4), by dsimp only; omega, _, hO'⟩, by dsimp only; omega, Weak.frL rfl ⟨rfl, rfl, rfl, rfl, rfl, trivial⟩⟩
      · intro h4x12
        first | refine s_pure rfl rfl (pv_pickT rfl rfl) ?_ | refine s_pure rfl rfl (pv_pickF rfl rfl) ?_
        refine s_nil ?_
        refine AWp.cond (b := false) rfl (fun h => by cases h) (fun _ => ?_)
        refine AWp.exit ?_
        refine AWp.seq ?_
        refine AWp.region E_ok.ok ?_
        refine s_pure rfl rfl (pv_mov rfl) ?_
        refine s_pure rfl rfl (pv_asg rfl) ?_
        refine s_nil ?_
        refine AWp.ret ?_
        refine leaf_own rfl hO (noBlks_I _) fun nl cap _ hc => ⟨nl, cap, (List.range k).map (PB.sdig 256 l m), by simpa using hc, by simp [vI], by simp; omega, PB.sdig_lt h2 _ _ _, ?_⟩
        have := PB.sum_inv 256 l m k
        rw [List.take_of_length_le (by omega), List.take_of_length_le (by omega)] at this
        have hz : PB.cry 256 l m k = 0 := by omega
        rw [hz] at this; omega
end Go.Am.Seat


namespace Go.Am.Seat
open Go Go.Am Go.Proofs
theorem wd256 : 2 ≤ 256 := by decide
theorem flat_dig (v : Nat) : PB.trimZ ((PB.dig WD v).flatMap PB.b4) = PB.dig 256 v := by
  rw [← PB.dig_val wd256 PB.flat_lt, PB.val_flat (PB.dig_lt wd2 v)]
  congr 1; exact PB.val_dig wd2 v
theorem bytes_ok (v : Nat) (r : AV) (h : IsB v r) (h64 : (PB.dig WD v).length ≤ 1000) : PureR E.C 38 [r] (fun r => ∃ nl cap, CapOk (PB.dig 256 v).length cap ∧ r = vI nl cap (PB.dig 256 v)) := by
  obtain ⟨nl, cap, rfl⟩ := h
  have hlt := PB.dig_lt wd2 v
  rw [← flat_dig v]
  generalize PB.dig WD v = l at *
  have htr := trimR_ok
  refine PureR.of_empty plain (by simp [vU, noBlks, noBlk, noBlks_U]) ?_
  refine ACall.of_body E_ok.ok Tryz.func38 rfl (by kernel_rfl) ?_
  dsimp only [vU, vI] at htr ⊢
  refine AWp.seq ?_
  refine AWp.region E_ok.ok ?_
  refine s_new rfl rfl (nv_box rfl rfl) ?_
  refine s_pure rfl rfl (pv_asg rfl) ?_
  refine s_nil ?_
  refine AWp.seq ?_
  refine AWp.region E_ok.ok ?_
  refine s_pure rfl rfl (pv_asg rfl) ?_
  refine s_nil ?_
  refine AWp.seq ?_
  refine AWp.seq ?_
  refine AWp.region E_ok.ok ?_
  refine s_pure rfl rfl (pv_asg rfl) ?_
  refine s_nil ?_
  refine AWp.block ?_
  refine AWp.loop (σ := {s : Nat × AV × AH // s.1 ≤ l.length ∧ s.2.2.get 0 = some (.cells [.bool false, .vec nl l.length cap (l.map encU)]) ∧ ∃ hi, Own 1 1 hi s.2.2 s.2.1 (4 * s.1) (((l.take s.1).flatMap PB.b4).map encI)})
    (fun s => frL 33 [(1, .ptr 0 0), (3, s.1.2.1), (4, .int .i64 s.1.1)]) (fun s => s.1.2.2) (fun s => l.length - s.1.1)
    ⟨(0, _, _), Nat.zero_le _, rfl, 1, .nil (nl := true) (Nat.le_refl _) (Nat.le_refl _)⟩ (Weak.frL rfl ⟨rfl, rfl, rfl, trivial⟩) ?_
  rintro ⟨⟨i, v0, A⟩, hi0, h0, hi, hO⟩
  dsimp only at hi0 h0 hO ⊢
  have hn0 := hO.next
  refine AWp.seq ?_
  refine AWp.seq ?_
  refine AWp.region E_ok.ok ?_
  refine s_pure rfl rfl (pv_mov rfl) ?_
  first | refine s_pure rfl rfl (pv_fld T42 rfl rfl T40 (by decide) rfl) ?_ | refine s_pure rfl rfl (pv_fldi T42 rfl rfl T40 (by decide) rfl) ?_
  first | refine s_imm rfl rfl (rv_loadi rfl (part_sc T40 rfl rfl)) ?_ | refine s_read rfl rfl (rv_load rfl) h0 (part_sc T40 rfl rfl) ?_
  first | refine s_pure rfl rfl (pv_len T40 rfl rfl) ?_ | refine s_pure rfl rfl (pv_len_sl T40 rfl rfl) ?_
  refine s_splitP rfl rfl (pv_int rfl rfl rfl) decide_eq_true_iff ?_ ?_
  · intro h3x4
    obtain ⟨d0, hd⟩ := get_some (show i < l.length by omega)
    have hkk : (i : Int) = i := rfl
    have hd0 := hlt d0 (List.mem_of_getElem? hd)
    have gw : WD = 4294967296 := rfl
    refine s_nil ?_
    refine AWp.cond (b := true) rfl (fun _ => ?_) (fun h => by cases h)
    refine AWp.skip ?_
    refine AWp.seq ?_
    refine AWp.block ?_
    refine AWp.seq ?_
    refine AWp.region E_ok.ok ?_
    first | refine s_pure rfl rfl (pv_fld T42 rfl rfl T40 (by decide) rfl) ?_ | refine s_pure rfl rfl (pv_fldi T42 rfl rfl T40 (by decide) rfl) ?_
    first | refine s_imm rfl rfl (rv_loadi rfl (part_sc T40 rfl rfl)) ?_ | refine s_read rfl rfl (rv_load rfl) h0 (part_sc T40 rfl rfl) ?_
    refine s_pure rfl rfl (pv_mov rfl) ?_
    first | refine s_pure rfl rfl (pv_idx T40 rfl T76 rfl rfl (by omega) (by omega) (drop_map hkk hd)) ?_ | refine s_pure rfl rfl (pv_idx_sl T40 rfl T76 rfl rfl (by omega) (by omega)) ?_
    first | refine s_imm rfl rfl (rv_loadi rfl (part_sc T76 rfl rfl)) ?_ | refine s_read rfl rfl (rv_load rfl) h0 (part_sc T76 rfl rfl) ?_
    refine s_pure rfl rfl (pv_asg rfl) ?_
    refine s_nil ?_
    refine AWp.seq ?_
    refine AWp.region E_ok.ok ?_
    refine s_pure rfl rfl (pv_asg rfl) ?_
    refine s_nil ?_
    refine AWp.block ?_
    refine AWp.loop (σ := {s : Nat × AV × AH // s.1 ≤ 4 ∧ s.2.2.get 0 = some (.cells [.bool false, .vec nl l.length cap (l.map encU)]) ∧ ∃ hi, Own 1 1 hi s.2.2 s.2.1 (4 * i + s.1) ((((l.take i).flatMap PB.b4) ++ (PB.b4 d0).take s.1).map encI)})
      (fun s => frL 33 [(1, .ptr 0 0), (3, s.1.2.1), (4, .int .i64 i), (5, .int .u32 (d0 / 256 ^ s.1.1 : Nat)), (6, .int .i64 s.1.1)]) (fun s => s.1.2.2) (fun s => 4 - s.1.1)
      ⟨(0, _, _), Nat.zero_le _, h0, hi, by simpa using hO⟩ (Weak.frL rfl ⟨rfl, rfl, rfl, by simp; rfl, rfl, trivial⟩) ?_
    clear hO h0
    rintro ⟨⟨k, v1, A1⟩, hk, h0, hi1, hO⟩
    dsimp only at hk h0 hO ⊢
    have hn1 := hO.next
    have hdk : d0 / 256 ^ k ≤ d0 := Nat.div_le_self _ _
    generalize hq : d0 / 256 ^ k = q at hdk ⊢
    refine AWp.seq ?_
    refine AWp.seq ?_
    refine AWp.region E_ok.ok ?_
    refine s_pure rfl rfl (pv_mov rfl) ?_
    refine s_splitP rfl rfl (pv_int rfl rfl rfl) decide_eq_true_iff ?_ ?_
    · intro h7x1
      refine s_nil ?_
      refine AWp.cond (b := true) rfl (fun _ => ?_) (fun h => by cases h)
      refine AWp.skip ?_
      refine AWp.seq ?_
      refine AWp.block ?_
      refine AWp.seq ?_
      refine AWp.region E_ok.ok ?_
      refine s_pure rfl rfl (pv_mov rfl) ?_
      refine s_pure rfl rfl (pv_mov rfl) ?_
      refine s_pure rfl rfl (pv_rem rfl rfl (by omega) (by omega)) ?_
      first | refine s_pure rfl rfl (pv_convk T76 T3 rfl (M := 9223372036854775807) rfl rfl (by omega) (by omega)) ?_ | refine s_pure rfl rfl (pv_conv T76 T3 rfl rfl) ?_
      refine s_newG rfl rfl (nv_bs T29 rfl T3 ⟨by decide, rfl⟩ rfl rfl rfl) ?_
      intro A9x4 hn9x4 hg9x4 hk9x4
      replace h0 := hk9x4 _ _ (by omega) h0
      replace hO := hO.grow hk9x4 (by omega)
      refine s_app rfl rfl (ev_app T29 rfl T3 hO rfl rfl hg9x4 rfl rfl rfl rfl (by show (2 * (_ + 1) + 192) * 8 ≤ 281474976710656; omega) (by omega)) ?_
      clear hO
      intro v9x5 A9x5 hO hk9x5 hn9x5
      first | replace h0 := hk9x5 _ _ (by omega) h0 | clear h0
      refine s_pure rfl rfl (pv_asg rfl) ?_
      refine s_nil ?_
      refine AWp.region E_ok.ok ?_
      refine s_pure rfl rfl (pv_mov rfl) ?_
      refine s_pure rfl rfl (pv_quok (M := 4294967295) rfl rfl rfl (by omega) (by omega) (by omega)) ?_
      refine s_pure rfl rfl (pv_asg rfl) ?_
      refine s_nil ?_
      refine AWp.region E_ok.ok ?_
      refine s_pure rfl rfl (pv_mov rfl) ?_
      refine s_pure rfl rfl (pv_add rfl rfl (by omega) (by omega)) ?_
      refine s_pure rfl rfl (pv_asg rfl) ?_
      refine s_nil ?_
      have hO' : Own 1 1 A9x5.next A9x5 v9x5 (4 * i + (k + 1)) ((((l.take i).flatMap PB.b4) ++ (PB.b4 d0).take (k + 1)).map encI) := by
        rw [PB.b4_take d0 (by omega), ← List.append_assoc, List.map_append, hq]
        exact hO
      exact ⟨⟨(k + 1, v9x5, A9x5), by dsimp only; omega, h0, _, hO'⟩, by dsimp only; omega, Weak.frL rfl ⟨rfl, rfl, rfl, int_eq (by dsimp only; rw [Nat.pow_succ, ← Nat.div_div_eq_div_mul, hq]; rfl), rfl, trivial⟩⟩
    · intro h7x1
      refine s_nil ?_
      refine AWp.cond (b := false) rfl (fun h => by cases h) (fun _ => ?_)
      refine AWp.exit ?_
      refine AWp.region E_ok.ok ?_
      refine s_pure rfl rfl (pv_mov rfl) ?_
      refine s_pure rfl rfl (pv_add rfl rfl (by omega) (by omega)) ?_
      refine s_pure rfl rfl (pv_asg rfl) ?_
      refine s_nil ?_
      obtain rfl : k = 4 := by omega
      have hO' : Own 1 1 hi1 A1 v1 (4 * (i + 1)) (((l.take (i + 1)).flatMap PB.b4).map encI) := by
        rw [PB.flat_take hd]; exact hO
      exact ⟨⟨(i + 1, v1, A1), by dsimp only; omega, h0, _, hO'⟩, by dsimp only; omega, Weak.frL rfl ⟨rfl, rfl, rfl, trivial⟩⟩
  · intro h3x4
    refine s_nil ?_
    refine AWp.cond (b := false) rfl (fun h => by cases h) (fun _ => ?_)
    refine AWp.exit ?_
    rw [show l.take i = l from List.take_of_length_le (by omega)] at hO
    refine AWp.freeze (l := fun nl cap => [(3, .vec nl (4 * i) cap ((l.flatMap PB.b4).map encI))]) hO rfl (fun nl cap => ⟨.inr ⟨rfl, rfl⟩, trivial⟩) ?_
    intro nl2 cap2 A2 hnl2 hcap2 hK2 hn2
    have hlen : 4 * i = (l.flatMap PB.b4).length := by rw [PB.flat_len]; omega
    rw [hlen] at hcap2 ⊢
    refine AWp.seq ?_
    refine AWp.region E_ok.ok ?_
    refine s_pure rfl rfl (pv_mov rfl) ?_
    refine s_callp rfl rfl rfl (htr nl2 cap2 (l.flatMap PB.b4) hcap2 (by rw [PB.flat_len]; omega)) ?_
    rintro _ rfl
    refine s_pure rfl rfl (pv_asg rfl) ?_
    refine s_nil ?_
    refine AWp.ret ?_
    exact leaf_ok rfl (by simp [noBlk, noBlks_I]) ⟨nl2, _, Nat.le_refl _, rfl⟩
theorem bigRightR_ok (l : List Nat) (r : AV) (h : IsU l r) (ht : PB.trimZ l = l) (h64 : l.length ≤ 64) : PureR E.C 16 [r] (fun r => r = .bool true) := by
  obtain ⟨nl, cap, rfl⟩ := h
  refine PureR.of_empty plain (by simp [vU, noBlks, noBlk, noBlks_U]) ?_
  refine ACall.of_body E_ok.ok Tryz.func16 rfl (by kernel_rfl) ?_
  dsimp only [vU]
  refine AWp.seq ?_
  refine AWp.region E_ok.ok ?_
  refine s_new rfl rfl (nv_box rfl rfl) ?_
  refine s_pure rfl rfl (pv_asg rfl) ?_
  refine s_nil ?_
  refine AWp.seq ?_
  refine AWp.region E_ok.ok ?_
  first | refine s_pure rfl rfl (pv_fld T42 rfl rfl T40 (by decide) rfl) ?_ | refine s_pure rfl rfl (pv_fldi T42 rfl rfl T40 (by decide) rfl) ?_
  first | refine s_imm rfl rfl (rv_loadi rfl (part_sc T40 rfl rfl)) ?_ | refine s_read rfl rfl (rv_load rfl) (rfl) (part_sc T40 rfl rfl) ?_
  first | refine s_pure rfl rfl (pv_len T40 rfl rfl) ?_ | refine s_pure rfl rfl (pv_len_sl T40 rfl rfl) ?_
  refine s_pure rfl rfl (pv_asg rfl) ?_
  refine s_nil ?_
  refine AWp.seq ?_
  refine AWp.seq ?_
  refine AWp.region E_ok.ok ?_
  refine s_pure rfl rfl (pv_mov rfl) ?_
  refine s_splitP rfl rfl (pv_int rfl rfl rfl) beq_iff_eq ?_ ?_
  · intro h2x1
    refine s_nil ?_
    refine AWp.cond (b := true) rfl (fun _ => ?_) (fun h => by cases h)
    refine AWp.seq ?_
    refine AWp.region E_ok.ok ?_
    first | refine s_pure rfl rfl (pv_fld T42 rfl rfl T4 (by decide) rfl) ?_ | refine s_pure rfl rfl (pv_fldi T42 rfl rfl T4 (by decide) rfl) ?_
    first | refine s_imm rfl rfl (rv_loadi rfl (part_sc T4 rfl rfl)) ?_ | refine s_read rfl rfl (rv_load rfl) (rfl) (part_sc T4 rfl rfl) ?_
    refine s_pure rfl rfl (pv_un rfl rfl) ?_
    refine s_pure rfl rfl (pv_asg rfl) ?_
    refine s_nil ?_
    refine AWp.ret ?_
    exact leaf_ok rfl rfl rfl
  · intro h2x1
    refine s_nil ?_
    refine AWp.cond (b := false) rfl (fun h => by cases h) (fun _ => ?_)
    refine AWp.skip ?_
    refine AWp.seq ?_
    refine AWp.region E_ok.ok ?_
    refine s_pure rfl rfl (pv_mov rfl) ?_
    refine s_splitP rfl rfl (pv_int rfl rfl rfl) decide_eq_true_iff ?_ ?_
    · intro h4x1
      obtain ⟨d, hd⟩ := get_some (show l.length - 1 < l.length by omega)
      have hkk : (l.length : Int) - 1 = (l.length - 1 : Nat) := by omega
      have hd0 := PB.top_ne ht hd
      refine s_pure rfl rfl (pv_mov rfl) ?_
      first | refine s_pure rfl rfl (pv_fld T42 rfl rfl T40 (by decide) rfl) ?_ | refine s_pure rfl rfl (pv_fldi T42 rfl rfl T40 (by decide) rfl) ?_
      first | refine s_imm rfl rfl (rv_loadi rfl (part_sc T40 rfl rfl)) ?_ | refine s_read rfl rfl (rv_load rfl) (rfl) (part_sc T40 rfl rfl) ?_
      refine s_pure rfl rfl (pv_mov rfl) ?_
      refine s_pure rfl rfl (pv_sub rfl rfl (by omega) (by omega)) ?_
      first | refine s_pure rfl rfl (pv_idx T40 rfl T76 rfl rfl (by omega) (by omega) (drop_map hkk hd)) ?_ | refine s_pure rfl rfl (pv_idx_sl T40 rfl T76 rfl rfl (by omega) (by omega)) ?_
      first | refine s_imm rfl rfl (rv_loadi rfl (part_sc T76 rfl rfl)) ?_ | refine s_read rfl rfl (rv_load rfl) (rfl) (part_sc T76 rfl rfl) ?_
      refine s_splitP rfl rfl (pv_int rfl rfl rfl) bne_iff_ne ?_ ?_
      · intro h4x9
        first | refine s_pure rfl rfl (pv_pickT rfl rfl) ?_ | refine s_pure rfl rfl (pv_pickF rfl rfl) ?_
        refine s_pure rfl rfl (pv_asg rfl) ?_
        refine s_nil ?_
        refine AWp.ret ?_
        exact leaf_ok rfl rfl rfl
      · intro h4x9
        omega
        --
    · intro h4x1
      omega
      --
theorem compareR_ok (a b : Nat) (ra rb : AV) (ha : IsB a ra) (hb : IsB b rb) (ha64 : (PB.dig WD a).length ≤ 64) (hb64 : (PB.dig WD b).length ≤ 64) (ha8 : (PB.dig 256 a).length ≤ 1000000) (hb8 : (PB.dig 256 b).length ≤ 1000000) :
    PureR E.C 15 [ra, rb] (fun r => r = .int .i64 (cmpI a b)) := by
  have hra := bigRightR_ok _ ra ha (PB.trimZ_dig wd2 a) ha64
  have hrb := bigRightR_ok _ rb hb (PB.trimZ_dig wd2 b) hb64
  have hba := bytes_ok a ra ha (by omega)
  have hbb := bytes_ok b rb hb (by omega)
  have hle := lessR_ok
  obtain ⟨nl, cap, rfl⟩ := ha
  obtain ⟨nl', cap', rfl⟩ := hb
  refine PureR.of_empty plain (by simp [vU, noBlks, noBlk, noBlks_U]) ?_
  refine ACall.of_body E_ok.ok Tryz.func15 rfl (by kernel_rfl) ?_
  dsimp only [vU, vI] at hra hrb hba hbb hle ⊢
  refine AWp.seq ?_
  refine AWp.region E_ok.ok ?_
  refine s_new rfl rfl (nv_box rfl rfl) ?_
  refine s_new rfl rfl (nv_box rfl rfl) ?_
  refine s_pure rfl rfl (pv_asg rfl) ?_
  refine s_nil ?_
  refine AWp.seq ?_
  refine AWp.seq ?_
  refine AWp.region E_ok.ok ?_
  first | refine s_imm rfl rfl (rv_loadi rfl (part_agg T42 rfl rfl rfl)) ?_ | refine s_read rfl rfl (rv_load rfl) (rfl) (part_agg T42 rfl rfl rfl) ?_
  refine s_callp rfl rfl rfl hra ?_
  rintro _ rfl
  refine s_pure rfl rfl (pv_un rfl rfl) ?_
  refine s_pure rfl rfl (pv_mov rfl) ?_
  first | refine s_imm rfl rfl (rv_loadi rfl (part_agg T42 rfl rfl rfl)) ?_ | refine s_read rfl rfl (rv_load rfl) (rfl) (part_agg T42 rfl rfl rfl) ?_
  refine s_callp rfl rfl rfl hrb ?_
  rintro _ rfl
  refine s_pure rfl rfl (pv_un rfl rfl) ?_
  first | refine s_pure rfl rfl (pv_pickT rfl rfl) ?_ | refine s_pure rfl rfl (pv_pickF rfl rfl) ?_
  refine s_nil ?_
  refine AWp.cond (b := false) rfl (fun h => by cases h) (fun _ => ?_)
  refine AWp.skip ?_
  refine AWp.seq ?_
  refine AWp.drawq E_ok.ok (ord := [0, 2, 1, 3, 4, 5]) (by kernel_rfl) ?_
  first | refine q_imm rfl rfl rfl rfl (rv_loadi rfl (part_agg T42 rfl rfl rfl)) ?_ | refine q_read rfl rfl rfl rfl (rv_load rfl) (rfl) (part_agg T42 rfl rfl rfl) ?_
  first | refine q_imm rfl rfl rfl rfl (rv_loadi rfl (part_agg T42 rfl rfl rfl)) ?_ | refine q_read rfl rfl rfl rfl (rv_load rfl) (rfl) (part_agg T42 rfl rfl rfl) ?_
  refine q_callp rfl rfl rfl rfl rfl hba ?_
  rintro _ ⟨nl1, cap1, hc1, rfl⟩
  refine q_callp rfl rfl rfl rfl rfl hbb ?_
  rintro _ ⟨nl2, cap2, hc2, rfl⟩
  refine q_pure rfl rfl rfl rfl (pv_asg rfl) ?_
  refine q_pure rfl rfl rfl rfl (pv_asg rfl) ?_
  first | refine q_nil0 ?_ | refine q_nil ?_
  refine AWp.seq ?_
  refine AWp.seq ?_
  refine AWp.region E_ok.ok ?_
  first | refine s_pure rfl rfl (pv_fld T42 rfl rfl T4 (by decide) rfl) ?_ | refine s_pure rfl rfl (pv_fldi T42 rfl rfl T4 (by decide) rfl) ?_
  first | refine s_imm rfl rfl (rv_loadi rfl (part_sc T4 rfl rfl)) ?_ | refine s_read rfl rfl (rv_load rfl) (rfl) (part_sc T4 rfl rfl) ?_
  first | refine s_pure rfl rfl (pv_fld T42 rfl rfl T4 (by decide) rfl) ?_ | refine s_pure rfl rfl (pv_fldi T42 rfl rfl T4 (by decide) rfl) ?_
  first | refine s_imm rfl rfl (rv_loadi rfl (part_sc T4 rfl rfl)) ?_ | refine s_read rfl rfl (rv_load rfl) (rfl) (part_sc T4 rfl rfl) ?_
  refine s_pure rfl rfl (pv_neb T4 rfl rfl rfl) ?_
  refine s_nil ?_
  refine AWp.cond (b := false) rfl (fun h => by cases h) (fun _ => ?_)
  refine AWp.skip ?_
  refine AWp.seq ?_
  refine AWp.seq ?_
  refine AWp.region E_ok.ok ?_
  first | refine s_pure rfl rfl (pv_fld T42 rfl rfl T4 (by decide) rfl) ?_ | refine s_pure rfl rfl (pv_fldi T42 rfl rfl T4 (by decide) rfl) ?_
  first | refine s_imm rfl rfl (rv_loadi rfl (part_sc T4 rfl rfl)) ?_ | refine s_read rfl rfl (rv_load rfl) (rfl) (part_sc T4 rfl rfl) ?_
  refine s_nil ?_
  refine AWp.cond (b := false) rfl (fun h => by cases h) (fun _ => ?_)
  refine AWp.skip ?_
  refine AWp.seq ?_
  refine AWp.seq ?_
  refine AWp.region E_ok.ok ?_
  refine s_pure rfl rfl (pv_mov rfl) ?_
  refine s_pure rfl rfl (pv_mov rfl) ?_
  refine s_callp rfl rfl rfl (hle a b nl1 nl2 cap1 cap2 ha8 hb8) ?_
  intro r hr
  rcases bool_split hr with ⟨rfl, hb⟩ | ⟨rfl, hb⟩ <;> simp at hb
  · skip
    refine s_nil ?_
    refine AWp.cond (b := true) rfl (fun _ => ?_) (fun h => by cases h)
    refine AWp.seq ?_
    refine AWp.region E_ok.ok ?_
    refine s_pure rfl rfl (pv_asg rfl) ?_
    refine s_nil ?_
    refine AWp.ret ?_
    exact leaf_ok rfl rfl (by unfold cmpI; congr 1; (repeat' split) <;> first | rfl | omega)
  · skip
    refine s_nil ?_
    refine AWp.cond (b := false) rfl (fun h => by cases h) (fun _ => ?_)
    refine AWp.skip ?_
    refine AWp.seq ?_
    refine AWp.seq ?_
    refine AWp.region E_ok.ok ?_
    refine s_pure rfl rfl (pv_mov rfl) ?_
    refine s_pure rfl rfl (pv_mov rfl) ?_
    refine s_callp rfl rfl rfl (hle b a nl2 nl1 cap2 cap1 hb8 ha8) ?_
    intro r hr
    rcases bool_split hr with ⟨rfl, hb'⟩ | ⟨rfl, hb'⟩ <;> simp at hb'
    · skip
      refine s_nil ?_
      refine AWp.cond (b := true) rfl (fun _ => ?_) (fun h => by cases h)
      refine AWp.seq ?_
      refine AWp.region E_ok.ok ?_
      refine s_pure rfl rfl (pv_asg rfl) ?_
      refine s_nil ?_
      refine AWp.ret ?_
      exact leaf_ok rfl rfl (by unfold cmpI; congr 1; (repeat' split) <;> first | rfl | omega)
    · skip
      refine s_nil ?_
      refine AWp.cond (b := false) rfl (fun h => by cases h) (fun _ => ?_)
      refine AWp.skip ?_
      refine AWp.seq ?_
      refine AWp.region E_ok.ok ?_
      refine s_pure rfl rfl (pv_asg rfl) ?_
      refine s_nil ?_
      refine AWp.ret ?_
      exact leaf_ok rfl rfl (by unfold cmpI; congr 1; (repeat' split) <;> first | rfl | omega)
end Go.Am.Seat

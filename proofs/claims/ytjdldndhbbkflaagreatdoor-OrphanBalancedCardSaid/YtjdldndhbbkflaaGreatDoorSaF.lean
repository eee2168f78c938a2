/- A part of the proof about cellularlaw49.OrphanBalanced: lemmas only; what they say is theirs alone and no condition of the claim. -/
import Derived.Test.YtjdldndhbbkflaaGreatDoorAmH
import Derived.Test.YtjdldndhbbkflaaGreatDoorSaA
import Derived.KernelRfl
set_option autoImplicit false
set_option linter.unusedVariables false
set_option linter.unusedSimpArgs false
set_option maxRecDepth 100000
noncomputable section
namespace Go.Am.Seat
open Go Go.Am Go.Proofs
/-! ## big integers of the program -/
def encU (d : Nat) : AV := .int .u32 (d : Int)
def vU (nl : Bool) (cap : Option Nat) (l : List Nat) : AV := .vec nl l.length cap (l.map encU)
theorem noBlks_U (l : List Nat) : noBlks (l.map encU) = true := noBlks_map (fun _ => rfl) l
def WD : Nat := 4294967296
theorem size_ok (n : Nat) (hn : n ≤ 9223372036854775807) : PureR E.C 79 [.int .i64 (n : Int)] (fun r => r = .int .u64 (n : Int)) := by
  refine PureR.of_empty plain rfl ?_
  refine ACall.of_body E_ok.ok Tryz.func79 rfl (by kernel_rfl) ?_
  refine AWp.seq ?_
  refine AWp.region E_ok.ok ?_
  refine s_pure rfl rfl (pv_asg rfl) ?_
  refine s_nil ?_
  refine AWp.seq ?_
  refine AWp.seq ?_
  refine AWp.region E_ok.ok ?_
  refine s_pure rfl rfl (pv_mov rfl) ?_
  refine s_splitP rfl rfl (pv_int rfl rfl rfl) decide_eq_true_iff ?_ ?_
  · intro h1x1
    omega
    --
  · intro h1x1
    refine s_nil ?_
    refine AWp.cond (b := false) rfl (fun h => by cases h) (fun _ => ?_)
    refine AWp.skip ?_
    refine AWp.seq ?_
    refine AWp.region E_ok.ok ?_
    refine s_pure rfl rfl (pv_mov rfl) ?_
    first | refine s_pure rfl rfl (pv_convk T3 T72 rfl (M := 18446744073709551615) rfl rfl (by omega) (by omega)) ?_ | refine s_pure rfl rfl (pv_conv T3 T72 rfl rfl) ?_
    refine s_pure rfl rfl (pv_asg rfl) ?_
    refine s_nil ?_
    refine AWp.ret ?_
    exact leaf_ok rfl rfl rfl
theorem digit_ok (nl : Bool) (cap : Option Nat) (l : List Nat) (k : Nat) : PureR E.C 121 [vU nl cap l, .int .i64 (k : Int)] (fun r => r = .int .u32 (l.getD k 0 : Nat)) := by
  refine PureR.of_empty plain (by simp [vU, noBlks, noBlk, noBlks_U]) ?_
  refine ACall.of_body E_ok.ok Tryz.func121 rfl (by kernel_rfl) ?_
  dsimp only [vU]
  refine AWp.seq ?_
  refine AWp.region E_ok.ok ?_
  refine s_pure rfl rfl (pv_asg rfl) ?_
  refine s_nil ?_
  refine AWp.seq ?_
  refine AWp.seq ?_
  refine AWp.region E_ok.ok ?_
  refine s_pure rfl rfl (pv_mov rfl) ?_
  refine s_pure rfl rfl (pv_mov rfl) ?_
  first | refine s_pure rfl rfl (pv_len T40 rfl rfl) ?_ | refine s_pure rfl rfl (pv_len_sl T40 rfl rfl) ?_
  refine s_splitP rfl rfl (pv_int rfl rfl rfl) decide_eq_true_iff ?_ ?_
  · intro h1x3
    obtain ⟨d, hd⟩ := get_some (show k < l.length by omega)
    have hkk : (k : Int) = k := rfl
    refine s_nil ?_
    refine AWp.cond (b := true) rfl (fun _ => ?_) (fun h => by cases h)
    refine AWp.seq ?_
    refine AWp.region E_ok.ok ?_
    refine s_pure rfl rfl (pv_mov rfl) ?_
    refine s_pure rfl rfl (pv_mov rfl) ?_
    first | refine s_pure rfl rfl (pv_idx T40 rfl T76 rfl rfl (by omega) (by omega) (drop_map hkk hd)) ?_ | refine s_pure rfl rfl (pv_idx_sl T40 rfl T76 rfl rfl (by omega) (by omega)) ?_
    first | refine s_imm rfl rfl (rv_loadi rfl (part_sc T76 rfl rfl)) ?_ | refine s_read rfl rfl (rv_load rfl) (rfl) (part_sc T76 rfl rfl) ?_
    refine s_pure rfl rfl (pv_asg rfl) ?_
    refine s_nil ?_
    refine AWp.ret ?_
    exact leaf_ok rfl rfl (by show AV.int _ _ = _; rw [List.getD_eq_getElem?_getD, hd]; rfl)
  · intro h1x3
    refine s_nil ?_
    refine AWp.cond (b := false) rfl (fun h => by cases h) (fun _ => ?_)
    refine AWp.skip ?_
    refine AWp.seq ?_
    refine AWp.region E_ok.ok ?_
    refine s_pure rfl rfl (pv_asg rfl) ?_
    refine s_nil ?_
    refine AWp.ret ?_
    exact leaf_ok rfl rfl (by show AV.int _ _ = _; rw [List.getD_eq_getElem?_getD, List.getElem?_eq_none (by omega)]; rfl)
theorem sum_take {l : List Nat} {k d : Nat} (h : l[k]? = some d) : (l.take (k + 1)).sum = (l.take k).sum + d := by
  obtain ⟨hk, rfl⟩ := List.getElem?_eq_some_iff.1 h
  rw [List.take_succ_eq_append_getElem hk, List.sum_append]; simp
theorem sum_take_le (l : List Nat) (k : Nat) : (l.take k).sum ≤ l.sum := by
  conv => rhs; rw [← List.take_append_drop k l, List.sum_append]
  omega
theorem carry_ok (c : Nat) (nl : Bool) (cap : Option Nat) (l : List Nat) (h : c + l.sum ≤ 18446744073709551615) (hd : ∀ d ∈ l, d ≤ 4294967295) (hl : l.length ≤ 1000000) :
    PureR E.C 120 [.int .u64 (c : Int), vU nl cap l] (fun r => r = .tuple [.int .u32 ((c + l.sum) % WD : Nat), .int .u64 ((c + l.sum) / WD : Nat)]) := by
  refine PureR.of_empty plain (by simp [vU, noBlks, noBlk, noBlks_U]) ?_
  refine ACall.of_body E_ok.ok Tryz.func120 rfl (by kernel_rfl) ?_
  dsimp only [vU]
  refine AWp.seq ?_
  refine AWp.region E_ok.ok ?_
  refine s_pure rfl rfl (pv_asg rfl) ?_
  refine s_pure rfl rfl (pv_asg rfl) ?_
  refine s_nil ?_
  refine AWp.seq ?_
  refine AWp.seq ?_
  refine AWp.region E_ok.ok ?_
  refine s_pure rfl rfl (pv_mov rfl) ?_
  first | refine s_pure rfl rfl (pv_len T40 rfl rfl) ?_ | refine s_pure rfl rfl (pv_len_sl T40 rfl rfl) ?_
  refine s_pure rfl rfl (pv_mov rfl) ?_
  refine s_nil ?_
  refine AWp.block ?_
  refine AWp.loop (σ := {s : Nat × AH // s.1 ≤ l.length}) (fun s => frL 23 [(0, .int .u64 (c + (l.take s.1.1).sum : Nat)), (8, .vec nl l.length cap (l.map encU)), (9, .int .i64 l.length), (10, .int .i64 s.1.1)]) (fun s => s.1.2) (fun s => l.length - s.1.1) ⟨(0, AH.empty), by simp⟩ (Weak.frL rfl ⟨by simp; rfl, rfl, rfl, rfl, trivial⟩) ?_
  rintro ⟨⟨k, A⟩, hk⟩
  dsimp only at hk ⊢
  refine AWp.seq ?_
  refine AWp.region E_ok.ok ?_
  refine s_splitP rfl rfl (pv_int rfl rfl rfl) decide_eq_true_iff ?_ ?_
  · intro h2x0
    obtain ⟨d, hd1⟩ := get_some (show k < l.length by omega)
    have hkk : (k : Int) = k := rfl
    have h1 := sum_take hd1
    have h2 := sum_take_le l (k + 1)
    have h3 := hd d (List.mem_of_getElem? hd1)
    refine s_nil ?_
    refine AWp.seq ?_
    refine AWp.cond (b := true) rfl (fun _ => ?_) (fun h => by cases h)
    refine AWp.skip ?_
    refine AWp.seq ?_
    refine AWp.block ?_
    refine AWp.seq ?_
    refine AWp.region E_ok.ok ?_
    first | refine s_pure rfl rfl (pv_idx T40 rfl T76 rfl rfl (by omega) (by omega) (drop_map hkk hd1)) ?_ | refine s_pure rfl rfl (pv_idx_sl T40 rfl T76 rfl rfl (by omega) (by omega)) ?_
    first | refine s_imm rfl rfl (rv_loadi rfl (part_sc T76 rfl rfl)) ?_ | refine s_read rfl rfl (rv_load rfl) (rfl) (part_sc T76 rfl rfl) ?_
    refine s_pure rfl rfl (pv_asg rfl) ?_
    refine s_nil ?_
    refine AWp.region E_ok.ok ?_
    refine s_pure rfl rfl (pv_mov rfl) ?_
    refine s_pure rfl rfl (pv_mov rfl) ?_
    first | refine s_pure rfl rfl (pv_convk T76 T72 rfl (M := 18446744073709551615) rfl rfl (by omega) (by omega)) ?_ | refine s_pure rfl rfl (pv_conv T76 T72 rfl rfl) ?_
    refine s_pure rfl rfl (pv_addk (M := 18446744073709551615) rfl rfl rfl (by omega) (by omega)) ?_
    refine s_pure rfl rfl (pv_asg rfl) ?_
    refine s_nil ?_
    refine AWp.region E_ok.ok ?_
    refine s_pure rfl rfl (pv_add rfl rfl (by omega) (by omega)) ?_
    refine s_pure rfl rfl (pv_mov rfl) ?_
    refine s_nil ?_
    exact ⟨⟨(k + 1, A), by dsimp only; omega⟩, by dsimp only; omega, Weak.frL rfl ⟨int_eq (by dsimp only; omega), rfl, rfl, rfl, trivial⟩⟩
  · intro h2x0
    refine s_nil ?_
    refine AWp.seq ?_
    refine AWp.cond (b := false) rfl (fun h => by cases h) (fun _ => ?_)
    refine AWp.exit ?_
    have e : l.take k = l := List.take_of_length_le (by omega)
    refine AWp.seq ?_
    refine AWp.region E_ok.ok ?_
    refine s_pure rfl rfl (pv_mov rfl) ?_
    first | refine s_pure rfl rfl (pv_convk T72 T76 rfl (M := 4294967295) rfl rfl (by omega) (by omega)) ?_ | refine s_pure rfl rfl (pv_conv32 T72 T76 rfl rfl) ?_ | refine s_pure rfl rfl (pv_conv T72 T76 rfl rfl) ?_
    refine s_pure rfl rfl (pv_mov rfl) ?_
    refine s_pure rfl rfl (pv_shr (d := 4294967296) rfl rfl (by omega) (by omega) rfl) ?_
    refine s_pure rfl rfl (pv_asg rfl) ?_
    refine s_pure rfl rfl (pv_asg rfl) ?_
    refine s_nil ?_
    refine AWp.ret ?_
    exact leaf_ok rfl rfl (by show AV.tuple [AV.int _ _, AV.int _ _] = _; rw [e]; rfl)
theorem trimmed_ok (nl : Bool) (cap : Option Nat) (l : List Nat) (hc : CapOk l.length cap) (hl : l.length ≤ 1000000) : PureR E.C 119 [vU nl cap l] (fun r => r = vU nl cap (PB.trimZ l)) := by
  refine PureR.of_empty plain (by simp [vU, noBlks, noBlk, noBlks_U]) ?_
  refine ACall.of_body E_ok.ok Tryz.func119 rfl (by kernel_rfl) ?_
  dsimp only [vU]
  refine AWp.seq ?_
  refine AWp.region E_ok.ok ?_
  refine s_pure rfl rfl (pv_asg rfl) ?_
  refine s_nil ?_
  refine AWp.seq ?_
  refine AWp.block ?_
  refine AWp.loop (σ := {s : Nat × AH // s.1 ≤ l.length ∧ ∀ j d, s.1 ≤ j → l[j]? = some d → d = 0}) (fun s => frL 21 [(0, .vec nl s.1.1 cap ((l.take s.1.1).map encU))]) (fun s => s.1.2) (fun s => s.1.1) ⟨(l.length, AH.empty), by simp, fun j d h1 h2 => by have := (List.getElem?_eq_some_iff.1 h2).1; dsimp only at h1; omega⟩ (Weak.frL rfl ⟨by simp; rfl, trivial⟩) ?_
  rintro ⟨⟨k, A⟩, hk, hinv⟩
  dsimp only at hk hinv ⊢
  refine AWp.seq ?_
  refine AWp.seq ?_
  refine AWp.region E_ok.ok ?_
  refine s_pure rfl rfl (pv_mov rfl) ?_
  first | refine s_pure rfl rfl (pv_len T40 rfl rfl) ?_ | refine s_pure rfl rfl (pv_len_sl T40 rfl rfl) ?_
  refine s_splitP rfl rfl (pv_int rfl rfl rfl) decide_eq_true_iff ?_ ?_
  · intro h1x2
    obtain ⟨d, hd'⟩ := get_some (show k - 1 < l.length by omega)
    have hd : (l.take k)[k - 1]? = some d := by rw [List.getElem?_take_of_lt (by omega)]; exact hd'
    have hkk : (k : Int) - 1 = (k - 1 : Nat) := by omega
    refine s_pure rfl rfl (pv_mov rfl) ?_
    refine s_pure rfl rfl (pv_mov rfl) ?_
    refine s_pure rfl rfl (pv_mov rfl) ?_
    first | refine s_pure rfl rfl (pv_len T40 rfl rfl) ?_ | refine s_pure rfl rfl (pv_len_sl T40 rfl rfl) ?_
    refine s_pure rfl rfl (pv_sub rfl rfl (by omega) (by omega)) ?_
    first | refine s_pure rfl rfl (pv_idx T40 rfl T76 rfl rfl (by omega) (by omega) (drop_map hkk hd)) ?_ | refine s_pure rfl rfl (pv_idx_sl T40 rfl T76 rfl rfl (by omega) (by omega)) ?_
    first | refine s_imm rfl rfl (rv_loadi rfl (part_sc T76 rfl rfl)) ?_ | refine s_read rfl rfl (rv_load rfl) (rfl) (part_sc T76 rfl rfl) ?_
    refine s_splitP rfl rfl (pv_int rfl rfl rfl) beq_iff_eq ?_ ?_
    · intro h1x10
      first | refine s_pure rfl rfl (pv_pickT rfl rfl) ?_ | refine s_pure rfl rfl (pv_pickF rfl rfl) ?_
      refine s_nil ?_
      refine AWp.cond (b := true) rfl (fun _ => ?_) (fun h => by cases h)
      refine AWp.skip ?_
      refine AWp.block ?_
      refine AWp.region E_ok.ok ?_
      refine s_pure rfl rfl (pv_mov rfl) ?_
      refine s_pure rfl rfl (pv_mov rfl) ?_
      first | refine s_pure rfl rfl (pv_len T40 rfl rfl) ?_ | refine s_pure rfl rfl (pv_len_sl T40 rfl rfl) ?_
      refine s_pure rfl rfl (pv_sub rfl rfl (by omega) (by omega)) ?_
      refine s_pure rfl rfl (pv_take T40 rfl T76 rfl rfl (by omega) (by omega) (hc.mono hk)) ?_
      refine s_pure rfl rfl (pv_asg rfl) ?_
      refine s_nil ?_
      have hnext : ∀ j e, k - 1 ≤ j → l[j]? = some e → e = 0 := by
        intro j e h1 h2
        by_cases ej : j = k - 1
        · subst ej; rw [hd'] at h2; cases h2; omega
        · exact hinv j e (by omega) h2
      have hcs : ((l.take k).map encU).take (((k : Int) - 1).toNat * ty76.size) = (l.take (k - 1)).map encU := by
        rw [show ((k : Int) - 1).toNat * ty76.size = k - 1 by show ((k : Int) - 1).toNat * 1 = _; omega, ← List.map_take, List.take_take, Nat.min_eq_left (by omega)]
      exact ⟨⟨(k - 1, A), by dsimp only; omega, hnext⟩, by dsimp only; omega, Weak.frL rfl ⟨vec_eq (by dsimp only; omega) hcs, trivial⟩⟩
    · intro h1x10
      first | refine s_pure rfl rfl (pv_pickT rfl rfl) ?_ | refine s_pure rfl rfl (pv_pickF rfl rfl) ?_
      refine s_nil ?_
      refine AWp.cond (b := false) rfl (fun h => by cases h) (fun _ => ?_)
      refine AWp.exit ?_
      refine AWp.seq ?_
      refine AWp.region E_ok.ok ?_
      refine s_pure rfl rfl (pv_mov rfl) ?_
      refine s_pure rfl rfl (pv_asg rfl) ?_
      refine s_nil ?_
      refine AWp.ret ?_
      have e : PB.trimZ l = l.take k := PB.trimZ_take hk hinv (by first | exact .inl (by omega) | exact .inr ⟨d, hd', by omega⟩)
      refine leaf_ok rfl (by simp [noBlk, noBlks_U, ← List.map_take]) ?_
      show AV.vec _ _ _ _ = _
      simp only [e, vU, List.length_take, Nat.min_eq_left hk]
  · intro h1x2
    refine s_pure rfl rfl (pv_mov rfl) ?_
    refine s_skip rfl rfl ?_
    refine s_skip rfl rfl ?_
    refine s_skip rfl rfl ?_
    refine s_skip rfl rfl ?_
    refine s_skip rfl rfl ?_
    refine s_skip rfl rfl ?_
    refine s_skip rfl rfl ?_
    first | refine s_pure rfl rfl (pv_pickT rfl rfl) ?_ | refine s_pure rfl rfl (pv_pickF rfl rfl) ?_
    refine s_nil ?_
    refine AWp.cond (b := false) rfl (fun h => by cases h) (fun _ => ?_)
    refine AWp.exit ?_
    refine AWp.seq ?_
    refine AWp.region E_ok.ok ?_
    refine s_pure rfl rfl (pv_mov rfl) ?_
    refine s_pure rfl rfl (pv_asg rfl) ?_
    refine s_nil ?_
    refine AWp.ret ?_
    have e : PB.trimZ l = l.take k := PB.trimZ_take hk hinv (by first | exact .inl (by omega) | exact .inr ⟨d, hd', by omega⟩)
    refine leaf_ok rfl (by simp [noBlk, noBlks_U, ← List.map_take]) ?_
    show AV.vec _ _ _ _ = _
    simp only [e, vU, List.length_take, Nat.min_eq_left hk]
end Go.Am.Seat


namespace Go.Am.Seat
open Go Go.Am Go.Proofs
/-- a big integer that is not negative, by its digits -/
def IsU (l : List Nat) (r : AV) : Prop := ∃ nl cap, r = .agg [.bool false, vU nl cap l]
def IsB (v : Nat) (r : AV) : Prop := IsU (PB.dig WD v) r
theorem IsU.noBlk {l : List Nat} {r : AV} (h : IsU l r) : noBlk r = true := by obtain ⟨nl, cap, rfl⟩ := h; simp [Am.noBlk, noBlks, vU, noBlks_U]
theorem made_ok (nl : Bool) (cap : Option Nat) (l : List Nat) (hc : CapOk l.length cap) (hl : l.length ≤ 1000000) (h64 : (PB.trimZ l).length ≤ 64) :
    PureR E.C 80 [.bool false, vU nl cap l] (fun r => ∃ b, IsU (PB.trimZ l) b ∧ r = .tuple [b, .int .i64 0]) := by
  refine PureR.of_empty plain (by simp [vU, noBlks, noBlk, noBlks_U]) ?_
  refine ACall.of_body E_ok.ok Tryz.func80 rfl (by kernel_rfl) ?_
  refine AWp.seq ?_
  refine AWp.region E_ok.ok ?_
  refine s_new rfl rfl (nv_alloc T42 rfl) ?_
  refine s_pure rfl rfl (pv_asg rfl) ?_
  refine s_nil ?_
  refine AWp.seq ?_
  refine AWp.region E_ok.ok ?_
  refine s_pure rfl rfl (pv_mov rfl) ?_
  refine s_callp rfl rfl rfl (trimmed_ok nl cap l hc hl) ?_
  rintro _ rfl
  dsimp only [vU]
  refine s_pure rfl rfl (pv_asg rfl) ?_
  refine s_nil ?_
  refine AWp.seq ?_
  refine AWp.seq ?_
  refine AWp.region E_ok.ok ?_
  refine s_pure rfl rfl (pv_mov rfl) ?_
  first | refine s_pure rfl rfl (pv_len T40 rfl rfl) ?_ | refine s_pure rfl rfl (pv_len_sl T40 rfl rfl) ?_
  refine s_splitP rfl rfl (pv_int rfl rfl rfl) decide_eq_true_iff ?_ ?_
  · intro h2x2
    omega
    --
  · intro h2x2
    refine s_nil ?_
    refine AWp.cond (b := false) rfl (fun h => by cases h) (fun _ => ?_)
    refine AWp.skip ?_
    refine AWp.seq ?_
    refine AWp.seq ?_
    refine AWp.region E_ok.ok ?_
    refine s_pure rfl rfl (pv_mov rfl) ?_
    first | refine s_pure rfl rfl (pv_len T40 rfl rfl) ?_ | refine s_pure rfl rfl (pv_len_sl T40 rfl rfl) ?_
    refine s_splitP rfl rfl (pv_int rfl rfl rfl) beq_iff_eq ?_ ?_
    · intro h4x2
      refine s_nil ?_
      refine AWp.cond (b := true) rfl (fun _ => ?_) (fun h => by cases h)
      refine AWp.seq ?_
      refine AWp.region E_ok.ok ?_
      refine s_pure rfl rfl (pv_build (pl := [(0, 1), (1, 1)]) T42 rfl rfl (by show omap _ [_, _] = some _; simp only [omap, T4, T40, Option.map_some]; rfl) rfl) ?_
      refine s_eff rfl rfl (ev_store T42 rfl rfl (by intro vs h; cases h) (rfl) rfl (by first | exact Nat.le_of_ble_eq_true rfl | (simp; omega)) rfl) ?_
      refine s_pure rfl rfl (pv_asg rfl) ?_
      refine s_nil ?_
      refine AWp.ret ?_
      have e : PB.trimZ l = [] := List.eq_nil_of_length_eq_zero (by omega)
      refine leaf_ok (ret_ct rfl rfl (part_agg T42 rfl rfl rfl) rfl) rfl ⟨_, ⟨true, some 0, ?_⟩, rfl⟩
      rw [e]; rfl
    · intro h4x2
      refine s_nil ?_
      refine AWp.cond (b := false) rfl (fun h => by cases h) (fun _ => ?_)
      refine AWp.skip ?_
      refine AWp.seq ?_
      refine AWp.region E_ok.ok ?_
      refine s_pure rfl rfl (pv_mov rfl) ?_
      refine s_pure rfl rfl (pv_mov rfl) ?_
      refine s_pure rfl rfl (pv_build (pl := [(0, 1), (1, 1)]) T42 rfl rfl (by show omap _ [_, _] = some _; simp only [omap, T4, T40, Option.map_some]; rfl) rfl) ?_
      refine s_eff rfl rfl (ev_store T42 rfl rfl (by intro vs h; cases h) (rfl) rfl (by first | exact Nat.le_of_ble_eq_true rfl | (simp; omega)) rfl) ?_
      refine s_pure rfl rfl (pv_asg rfl) ?_
      refine s_nil ?_
      refine AWp.ret ?_
      exact leaf_ok (ret_ct rfl rfl (part_agg T42 rfl rfl rfl) rfl) (by simp [noBlk, noBlks, noBlks_U, ty42, setRange, aCells]) ⟨_, ⟨nl, cap, rfl⟩, rfl⟩
theorem wd2 : 2 ≤ WD := by decide
theorem dig2 (n : Nat) (h : n < WD * WD) : PB.trimZ [n % WD, n / WD] = PB.dig WD n := by
  have hd : ∀ d ∈ [n % WD, n / WD], d < WD := by
    intro d hd
    rcases List.mem_cons.1 hd with rfl | hd
    · exact Nat.mod_lt _ (by decide)
    · rcases List.mem_cons.1 hd with rfl | hd
      · exact Nat.div_lt_of_lt_mul h
      · simp at hd
  rw [← PB.dig_val wd2 hd]
  congr 1
  simp only [PB.val, Nat.mul_zero, Nat.add_zero]
  exact Nat.mod_add_div n WD
theorem from_ok (n : Nat) (hn : n ≤ 9223372036854775807) : PureR E.C 56 [.int .i64 (n : Int)] (IsB n) := by
  have hw : n < WD * WD := by unfold WD; omega
  have hlen : (PB.dig WD n).length ≤ 64 := PB.dig_len wd2 64 n (Nat.lt_of_lt_of_le hw (by decide))
  have hmade := made_ok false (some 2) [n % WD, n / WD] (Nat.le_refl _) (by simp) (by rw [dig2 n hw]; exact hlen)
  rw [dig2 n hw] at hmade
  refine PureR.of_empty plain rfl ?_
  refine ACall.of_body E_ok.ok Tryz.func56 rfl (by kernel_rfl) ?_
  refine AWp.seq ?_
  refine AWp.region E_ok.ok ?_
  refine s_new rfl rfl (nv_alloc T42 rfl) ?_
  refine s_nil ?_
  refine AWp.seq ?_
  refine AWp.region E_ok.ok ?_
  refine s_pure rfl rfl (pv_mov rfl) ?_
  refine s_callp rfl rfl rfl (size_ok n hn) ?_
  rintro _ rfl
  refine s_pure rfl rfl (pv_asg rfl) ?_
  refine s_nil ?_
  refine AWp.seq ?_
  refine AWp.region E_ok.ok ?_
  refine s_pure rfl rfl (pv_mov rfl) ?_
  refine s_splitP rfl rfl (pv_int rfl rfl rfl) decide_eq_true_iff ?_ ?_
  · intro h2x1
    omega
    --
  · intro h2x1
    refine s_pure rfl rfl (pv_mov rfl) ?_
    first | refine s_pure rfl rfl (pv_convk T72 T76 rfl (M := 4294967295) rfl rfl (by omega) (by omega)) ?_ | refine s_pure rfl rfl (pv_conv32 T72 T76 rfl rfl) ?_ | refine s_pure rfl rfl (pv_conv T72 T76 rfl rfl) ?_
    refine s_pure rfl rfl (pv_mov rfl) ?_
    refine s_pure rfl rfl (pv_shr (d := 4294967296) rfl rfl (by omega) (by omega) rfl) ?_
    first | refine s_pure rfl rfl (pv_convk T72 T76 rfl (M := 4294967295) rfl rfl (by omega) (by omega)) ?_ | refine s_pure rfl rfl (pv_conv32 T72 T76 rfl rfl) ?_ | refine s_pure rfl rfl (pv_conv T72 T76 rfl rfl) ?_
    refine s_new rfl rfl (nv_bs T40 rfl T76 ⟨by decide, rfl⟩ rfl rfl rfl) ?_
    refine s_call rfl rfl rfl (PureR.eat plain hmade (β := 1) (L := [n % WD, n / WD].map encU) rfl (noBlks_U _) ⟨_, _, rfl, .inl ⟨rfl, rfl⟩, _, _, rfl, .inr ⟨2, some 2, 1, rfl, rfl, rfl⟩, rfl⟩) ?_
    rintro _ _ ⟨rfl, b, hb, rfl⟩
    obtain ⟨nl, cap, rfl⟩ := hb
    refine s_pure rfl rfl (pv_mov rfl) ?_
    refine s_pure rfl rfl (pv_ext rfl rfl) ?_
    refine s_pure rfl rfl (pv_ext rfl rfl) ?_
    refine s_new rfl rfl (nv_alloc T42 rfl) ?_
    refine s_eff rfl rfl (ev_store T42 rfl rfl (by intro vs h; cases h) (rfl) rfl (by first | exact Nat.le_of_ble_eq_true rfl | (simp; omega)) rfl) ?_
    refine s_pure rfl rfl (pv_asg rfl) ?_
    refine s_nil ?_
    refine AWp.seq ?_
    refine AWp.region E_ok.ok ?_
    first | refine s_imm rfl rfl (rv_loadi rfl (part_agg T42 rfl rfl rfl)) ?_ | refine s_read rfl rfl (rv_load rfl) (rfl) (part_agg T42 rfl rfl rfl) ?_
    refine s_eff rfl rfl (ev_store T42 rfl rfl (by intro vs h; cases h) (rfl) rfl (by first | exact Nat.le_of_ble_eq_true rfl | (simp; omega)) rfl) ?_
    refine s_nil ?_
    refine AWp.ret ?_
    exact leaf_ok (ret_c rfl rfl (part_agg T42 rfl rfl rfl)) (by simp [noBlk, noBlks, noBlks_U, ty42, setRange, aCells, vU]) ⟨nl, cap, rfl⟩
theorem bigRight_ok (l : List Nat) (r : AV) (h : IsU l r) (ht : PB.trimZ l = l) (h64 : l.length ≤ 64) : PureR E.C 59 [r] (fun r => r = .bool true) := by
  obtain ⟨nl, cap, rfl⟩ := h
  refine PureR.of_empty plain (by simp [vU, noBlks, noBlk, noBlks_U]) ?_
  refine ACall.of_body E_ok.ok Tryz.func59 rfl (by kernel_rfl) ?_
  dsimp only [vU]
  refine AWp.seq ?_
  refine AWp.region E_ok.ok ?_
  refine s_new rfl rfl (nv_box rfl rfl) ?_
  refine s_pure rfl rfl (pv_asg rfl) ?_
  refine s_nil ?_
  refine AWp.seq ?_
  refine AWp.region E_ok.ok ?_
  first | refine s_pure rfl rfl (pv_fld T42 rfl rfl T40 (by decide) rfl) ?_ | refine s_pure rfl rfl (pv_fldi T42 rfl rfl T40 (by decide) rfl) ?_
  first | refine s_imm rfl rfl (rv_loadi rfl (part_sc T40 rfl rfl)) ?_ | refine s_read rfl rfl (rv_load rfl) (rfl) (part_sc T40 rfl rfl) ?_
  first | refine s_pure rfl rfl (pv_len T40 rfl rfl) ?_ | refine s_pure rfl rfl (pv_len_sl T40 rfl rfl) ?_
  refine s_pure rfl rfl (pv_asg rfl) ?_
  refine s_nil ?_
  refine AWp.seq ?_
  refine AWp.seq ?_
  refine AWp.region E_ok.ok ?_
  refine s_pure rfl rfl (pv_mov rfl) ?_
  refine s_splitP rfl rfl (pv_int rfl rfl rfl) beq_iff_eq ?_ ?_
  · intro h2x1
    refine s_nil ?_
    refine AWp.cond (b := true) rfl (fun _ => ?_) (fun h => by cases h)
    refine AWp.seq ?_
    refine AWp.region E_ok.ok ?_
    first | refine s_pure rfl rfl (pv_fld T42 rfl rfl T4 (by decide) rfl) ?_ | refine s_pure rfl rfl (pv_fldi T42 rfl rfl T4 (by decide) rfl) ?_
    first | refine s_imm rfl rfl (rv_loadi rfl (part_sc T4 rfl rfl)) ?_ | refine s_read rfl rfl (rv_load rfl) (rfl) (part_sc T4 rfl rfl) ?_
    refine s_pure rfl rfl (pv_un rfl rfl) ?_
    refine s_pure rfl rfl (pv_asg rfl) ?_
    refine s_nil ?_
    refine AWp.ret ?_
    exact leaf_ok rfl rfl rfl
  · intro h2x1
    refine s_nil ?_
    refine AWp.cond (b := false) rfl (fun h => by cases h) (fun _ => ?_)
    refine AWp.skip ?_
    refine AWp.seq ?_
    refine AWp.region E_ok.ok ?_
    refine s_pure rfl rfl (pv_mov rfl) ?_
    refine s_splitP rfl rfl (pv_int rfl rfl rfl) decide_eq_true_iff ?_ ?_
    · intro h4x1
      obtain ⟨d, hd⟩ := get_some (show l.length - 1 < l.length by omega)
      have hkk : (l.length : Int) - 1 = (l.length - 1 : Nat) := by omega
      have hd0 := PB.top_ne ht hd
      refine s_pure rfl rfl (pv_mov rfl) ?_
      first | refine s_pure rfl rfl (pv_fld T42 rfl rfl T40 (by decide) rfl) ?_ | refine s_pure rfl rfl (pv_fldi T42 rfl rfl T40 (by decide) rfl) ?_
      first | refine s_imm rfl rfl (rv_loadi rfl (part_sc T40 rfl rfl)) ?_ | refine s_read rfl rfl (rv_load rfl) (rfl) (part_sc T40 rfl rfl) ?_
      refine s_pure rfl rfl (pv_mov rfl) ?_
      refine s_pure rfl rfl (pv_sub rfl rfl (by omega) (by omega)) ?_
      first | refine s_pure rfl rfl (pv_idx T40 rfl T76 rfl rfl (by omega) (by omega) (drop_map hkk hd)) ?_ | refine s_pure rfl rfl (pv_idx_sl T40 rfl T76 rfl rfl (by omega) (by omega)) ?_
      first | refine s_imm rfl rfl (rv_loadi rfl (part_sc T76 rfl rfl)) ?_ | refine s_read rfl rfl (rv_load rfl) (rfl) (part_sc T76 rfl rfl) ?_
      refine s_splitP rfl rfl (pv_int rfl rfl rfl) bne_iff_ne ?_ ?_
      · intro h4x9
        first | refine s_pure rfl rfl (pv_pickT rfl rfl) ?_ | refine s_pure rfl rfl (pv_pickF rfl rfl) ?_
        refine s_pure rfl rfl (pv_asg rfl) ?_
        refine s_nil ?_
        refine AWp.ret ?_
        exact leaf_ok rfl rfl rfl
      · intro h4x9
        omega
        --
    · intro h4x1
      omega
      --
theorem against_ok (a b : Nat) (nl nl' : Bool) (cap cap' : Option Nat) (ha : (PB.dig WD a).length ≤ 1000000) (hb : (PB.dig WD b).length ≤ 1000000) :
    PureR E.C 60 [vU nl cap (PB.dig WD a), vU nl' cap' (PB.dig WD b)] (fun r => r = .int .i64 (cmpI a b)) := by
  have va := PB.val_dig wd2 a; have vb := PB.val_dig wd2 b
  have ta := PB.trimZ_dig wd2 a; have tb := PB.trimZ_dig wd2 b
  have da := PB.dig_lt wd2 a; have db := PB.dig_lt wd2 b
  generalize PB.dig WD a = l at *
  generalize PB.dig WD b = m at *
  refine PureR.of_empty plain (by simp [vU, noBlks, noBlk, noBlks_U]) ?_
  refine ACall.of_body E_ok.ok Tryz.func60 rfl (by kernel_rfl) ?_
  dsimp only [vU]
  refine AWp.seq ?_
  refine AWp.region E_ok.ok ?_
  refine s_pure rfl rfl (pv_asg rfl) ?_
  refine s_nil ?_
  refine AWp.seq ?_
  refine AWp.seq ?_
  refine AWp.region E_ok.ok ?_
  refine s_pure rfl rfl (pv_mov rfl) ?_
  first | refine s_pure rfl rfl (pv_len T40 rfl rfl) ?_ | refine s_pure rfl rfl (pv_len_sl T40 rfl rfl) ?_
  refine s_pure rfl rfl (pv_mov rfl) ?_
  first | refine s_pure rfl rfl (pv_len T40 rfl rfl) ?_ | refine s_pure rfl rfl (pv_len_sl T40 rfl rfl) ?_
  refine s_splitP rfl rfl (pv_int rfl rfl rfl) bne_iff_ne ?_ ?_
  · intro h1x4
    refine s_nil ?_
    refine AWp.cond (b := true) rfl (fun _ => ?_) (fun h => by cases h)
    refine AWp.seq ?_
    refine AWp.seq ?_
    refine AWp.region E_ok.ok ?_
    refine s_pure rfl rfl (pv_mov rfl) ?_
    first | refine s_pure rfl rfl (pv_len T40 rfl rfl) ?_ | refine s_pure rfl rfl (pv_len_sl T40 rfl rfl) ?_
    refine s_pure rfl rfl (pv_mov rfl) ?_
    first | refine s_pure rfl rfl (pv_len T40 rfl rfl) ?_ | refine s_pure rfl rfl (pv_len_sl T40 rfl rfl) ?_
    refine s_splitP rfl rfl (pv_int rfl rfl rfl) decide_eq_true_iff ?_ ?_
    · intro h2x4
      refine s_nil ?_
      refine AWp.cond (b := true) rfl (fun _ => ?_) (fun h => by cases h)
      refine AWp.seq ?_
      refine AWp.region E_ok.ok ?_
      refine s_pure rfl rfl (pv_asg rfl) ?_
      refine s_nil ?_
      refine AWp.ret ?_
      have := PB.val_lt_len wd2 da tb (by omega)
      exact leaf_ok rfl rfl (by show AV.int _ (-1) = _; rw [cmpI, if_pos (by omega)])
    · intro h2x4
      refine s_nil ?_
      refine AWp.cond (b := false) rfl (fun h => by cases h) (fun _ => ?_)
      refine AWp.skip ?_
      refine AWp.seq ?_
      refine AWp.region E_ok.ok ?_
      refine s_pure rfl rfl (pv_asg rfl) ?_
      refine s_nil ?_
      refine AWp.ret ?_
      have := PB.val_lt_len wd2 db ta (by omega)
      exact leaf_ok rfl rfl (by show AV.int _ 1 = _; rw [cmpI, if_neg (by omega), if_pos (by omega)])
  · intro h1x4
    refine s_nil ?_
    refine AWp.cond (b := false) rfl (fun h => by cases h) (fun _ => ?_)
    refine AWp.skip ?_
    refine AWp.seq ?_
    refine AWp.seq ?_
    refine AWp.region E_ok.ok ?_
    refine s_pure rfl rfl (pv_mov rfl) ?_
    first | refine s_pure rfl rfl (pv_len T40 rfl rfl) ?_ | refine s_pure rfl rfl (pv_len_sl T40 rfl rfl) ?_
    refine s_pure rfl rfl (pv_sub rfl rfl (by omega) (by omega)) ?_
    refine s_pure rfl rfl (pv_asg rfl) ?_
    refine s_nil ?_
    refine AWp.block ?_
    refine AWp.loop (σ := {s : Nat × AH // s.1 ≤ l.length ∧ ∀ j, s.1 ≤ j → l[j]? = m[j]?}) (fun s => frL 41 [(0, .vec nl l.length cap (l.map encU)), (1, .vec nl' m.length cap' (m.map encU)), (5, .int .i64 (s.1.1 - 1))]) (fun s => s.1.2) (fun s => s.1.1) ⟨(l.length, AH.empty), by simp, fun j hj => by rw [List.getElem?_eq_none (by dsimp only at hj; omega), List.getElem?_eq_none (by dsimp only at hj; omega)]⟩ (Weak.frL rfl ⟨rfl, rfl, rfl, trivial⟩) ?_
    rintro ⟨⟨k, A⟩, hk, hinv⟩
    dsimp only at hk hinv ⊢
    refine AWp.seq ?_
    refine AWp.seq ?_
    refine AWp.region E_ok.ok ?_
    refine s_pure rfl rfl (pv_mov rfl) ?_
    refine s_splitP rfl rfl (pv_int rfl rfl rfl) decide_eq_true_iff ?_ ?_
    · intro h6x1
      obtain ⟨d, hd⟩ := get_some (show k - 1 < l.length by omega)
      obtain ⟨e, he⟩ := get_some (show k - 1 < m.length by omega)
      have hkk : (k : Int) - 1 = (k - 1 : Nat) := by omega
      refine s_nil ?_
      refine AWp.cond (b := true) rfl (fun _ => ?_) (fun h => by cases h)
      refine AWp.skip ?_
      refine AWp.seq ?_
      refine AWp.block ?_
      refine AWp.seq ?_
      refine AWp.seq ?_
      refine AWp.drawq E_ok.ok (ord := [0, 1, 2, 3, 4, 5, 6, 7, 8]) (by kernel_rfl) ?_
      refine q_pure rfl rfl rfl rfl (pv_mov rfl) ?_
      refine q_pure rfl rfl rfl rfl (pv_mov rfl) ?_
      first | refine q_pure rfl rfl rfl rfl (pv_idx T40 rfl T76 rfl rfl (by omega) (by omega) (drop_map hkk hd)) ?_ | refine q_pure rfl rfl rfl rfl (pv_idx_sl T40 rfl T76 rfl rfl (by omega) (by omega)) ?_
      first | refine q_imm rfl rfl rfl rfl (rv_loadi rfl (part_sc T76 rfl rfl)) ?_ | refine q_read rfl rfl rfl rfl (rv_load rfl) (rfl) (part_sc T76 rfl rfl) ?_
      refine q_pure rfl rfl rfl rfl (pv_mov rfl) ?_
      refine q_pure rfl rfl rfl rfl (pv_mov rfl) ?_
      first | refine q_pure rfl rfl rfl rfl (pv_idx T40 rfl T76 rfl rfl (by omega) (by omega) (drop_map hkk he)) ?_ | refine q_pure rfl rfl rfl rfl (pv_idx_sl T40 rfl T76 rfl rfl (by omega) (by omega)) ?_
      first | refine q_imm rfl rfl rfl rfl (rv_loadi rfl (part_sc T76 rfl rfl)) ?_ | refine q_read rfl rfl rfl rfl (rv_load rfl) (rfl) (part_sc T76 rfl rfl) ?_
      refine q_splitP rfl rfl rfl rfl (pv_int rfl rfl rfl) decide_eq_true_iff ?_ ?_
      · intro h8x8
        first | refine q_nil0 ?_ | refine q_nil ?_
        refine AWp.cond (b := true) rfl (fun _ => ?_) (fun h => by cases h)
        refine AWp.seq ?_
        refine AWp.region E_ok.ok ?_
        refine s_pure rfl rfl (pv_asg rfl) ?_
        refine s_nil ?_
        refine AWp.ret ?_
        have := PB.val_lt_at da (by omega) (fun j hj => hinv j (by omega)) hd he (by omega)
        exact leaf_ok rfl rfl (by show AV.int _ (-1) = _; rw [cmpI, if_pos (by omega)])
      · intro h8x8
        first | refine q_nil0 ?_ | refine q_nil ?_
        refine AWp.cond (b := false) rfl (fun h => by cases h) (fun _ => ?_)
        refine AWp.skip ?_
        refine AWp.seq ?_
        refine AWp.drawq E_ok.ok (ord := [0, 1, 2, 3, 4, 5, 6, 7, 8]) (by kernel_rfl) ?_
        refine q_pure rfl rfl rfl rfl (pv_mov rfl) ?_
        refine q_pure rfl rfl rfl rfl (pv_mov rfl) ?_
        first | refine q_pure rfl rfl rfl rfl (pv_idx T40 rfl T76 rfl rfl (by omega) (by omega) (drop_map hkk hd)) ?_ | refine q_pure rfl rfl rfl rfl (pv_idx_sl T40 rfl T76 rfl rfl (by omega) (by omega)) ?_
        first | refine q_imm rfl rfl rfl rfl (rv_loadi rfl (part_sc T76 rfl rfl)) ?_ | refine q_read rfl rfl rfl rfl (rv_load rfl) (rfl) (part_sc T76 rfl rfl) ?_
        refine q_pure rfl rfl rfl rfl (pv_mov rfl) ?_
        refine q_pure rfl rfl rfl rfl (pv_mov rfl) ?_
        first | refine q_pure rfl rfl rfl rfl (pv_idx T40 rfl T76 rfl rfl (by omega) (by omega) (drop_map hkk he)) ?_ | refine q_pure rfl rfl rfl rfl (pv_idx_sl T40 rfl T76 rfl rfl (by omega) (by omega)) ?_
        first | refine q_imm rfl rfl rfl rfl (rv_loadi rfl (part_sc T76 rfl rfl)) ?_ | refine q_read rfl rfl rfl rfl (rv_load rfl) (rfl) (part_sc T76 rfl rfl) ?_
        refine q_splitP rfl rfl rfl rfl (pv_int rfl rfl rfl) decide_eq_true_iff ?_ ?_
        · intro h10x8
          first | refine q_nil0 ?_ | refine q_nil ?_
          refine AWp.cond (b := true) rfl (fun _ => ?_) (fun h => by cases h)
          refine AWp.seq ?_
          refine AWp.region E_ok.ok ?_
          refine s_pure rfl rfl (pv_asg rfl) ?_
          refine s_nil ?_
          refine AWp.ret ?_
          have := PB.val_lt_at db (by omega) (fun j hj => (hinv j (by omega)).symm) he hd (by omega)
          exact leaf_ok rfl rfl (by show AV.int _ 1 = _; rw [cmpI, if_neg (by omega), if_pos (by omega)])
        · intro h10x8
          first | refine q_nil0 ?_ | refine q_nil ?_
          refine AWp.cond (b := false) rfl (fun h => by cases h) (fun _ => ?_)
          refine AWp.skip ?_
          refine AWp.region E_ok.ok ?_
          refine s_pure rfl rfl (pv_mov rfl) ?_
          refine s_pure rfl rfl (pv_sub rfl rfl (by omega) (by omega)) ?_
          refine s_pure rfl rfl (pv_asg rfl) ?_
          refine s_nil ?_
          refine ⟨⟨(k - 1, A), by dsimp only; omega, fun j hj => ?_⟩, by dsimp only; omega, Weak.frL rfl ⟨rfl, rfl, int_eq (by dsimp only; omega), trivial⟩⟩
          by_cases ej : j = k - 1
          · subst ej; rw [hd, he]; congr 1; omega
          · exact hinv j (by dsimp only at hj; omega)
    · intro h6x1
      refine s_nil ?_
      refine AWp.cond (b := false) rfl (fun h => by cases h) (fun _ => ?_)
      refine AWp.exit ?_
      refine AWp.seq ?_
      refine AWp.region E_ok.ok ?_
      refine s_pure rfl rfl (pv_asg rfl) ?_
      refine s_nil ?_
      refine AWp.ret ?_
      have e : l = m := List.ext_getElem? fun j => hinv j (by omega)
      exact leaf_ok rfl rfl (by show AV.int _ 0 = _; rw [cmpI, if_neg (by rw [← va, ← vb, e]; omega), if_neg (by rw [← va, ← vb, e]; omega)])
theorem compare_ok (a b : Nat) (ra rb : AV) (ha : IsB a ra) (hb : IsB b rb) (ha64 : (PB.dig WD a).length ≤ 64) (hb64 : (PB.dig WD b).length ≤ 64) :
    PureR E.C 35 [ra, rb] (fun r => r = .int .i64 (cmpI a b)) := by
  have hra := bigRight_ok _ ra ha (PB.trimZ_dig wd2 a) ha64
  have hrb := bigRight_ok _ rb hb (PB.trimZ_dig wd2 b) hb64
  have hag := against_ok a b
  obtain ⟨nl, cap, rfl⟩ := ha
  obtain ⟨nl', cap', rfl⟩ := hb
  refine PureR.of_empty plain (by simp [vU, noBlks, noBlk, noBlks_U]) ?_
  refine ACall.of_body E_ok.ok Tryz.func35 rfl (by kernel_rfl) ?_
  dsimp only [vU] at hra hrb hag ⊢
  refine AWp.seq ?_
  refine AWp.region E_ok.ok ?_
  refine s_new rfl rfl (nv_box rfl rfl) ?_
  refine s_new rfl rfl (nv_box rfl rfl) ?_
  refine s_pure rfl rfl (pv_asg rfl) ?_
  refine s_nil ?_
  refine AWp.seq ?_
  refine AWp.block ?_
  refine AWp.seq ?_
  refine AWp.region E_ok.ok ?_
  first | refine s_imm rfl rfl (rv_loadi rfl (part_agg T42 rfl rfl rfl)) ?_ | refine s_read rfl rfl (rv_load rfl) (rfl) (part_agg T42 rfl rfl rfl) ?_
  refine s_callp rfl rfl rfl hra ?_
  rintro _ rfl
  refine s_pure rfl rfl (pv_un rfl rfl) ?_
  refine s_pure rfl rfl (pv_mov rfl) ?_
  first | refine s_imm rfl rfl (rv_loadi rfl (part_agg T42 rfl rfl rfl)) ?_ | refine s_read rfl rfl (rv_load rfl) (rfl) (part_agg T42 rfl rfl rfl) ?_
  refine s_callp rfl rfl rfl hrb ?_
  rintro _ rfl
  refine s_pure rfl rfl (pv_un rfl rfl) ?_
  first | refine s_pure rfl rfl (pv_pickT rfl rfl) ?_ | refine s_pure rfl rfl (pv_pickF rfl rfl) ?_
  refine s_pure rfl rfl (pv_asg rfl) ?_
  refine s_nil ?_
  refine AWp.cond (b := false) rfl (fun h => by cases h) (fun _ => ?_)
  refine AWp.seq ?_
  refine AWp.region E_ok.ok ?_
  first | refine s_pure rfl rfl (pv_fld T42 rfl rfl T4 (by decide) rfl) ?_ | refine s_pure rfl rfl (pv_fldi T42 rfl rfl T4 (by decide) rfl) ?_
  first | refine s_imm rfl rfl (rv_loadi rfl (part_sc T4 rfl rfl)) ?_ | refine s_read rfl rfl (rv_load rfl) (rfl) (part_sc T4 rfl rfl) ?_
  first | refine s_pure rfl rfl (pv_fld T42 rfl rfl T4 (by decide) rfl) ?_ | refine s_pure rfl rfl (pv_fldi T42 rfl rfl T4 (by decide) rfl) ?_
  first | refine s_imm rfl rfl (rv_loadi rfl (part_sc T4 rfl rfl)) ?_ | refine s_read rfl rfl (rv_load rfl) (rfl) (part_sc T4 rfl rfl) ?_
  refine s_pure rfl rfl (pv_neb T4 rfl rfl rfl) ?_
  refine s_pure rfl rfl (pv_asg rfl) ?_
  refine s_nil ?_
  refine AWp.cond (b := false) rfl (fun h => by cases h) (fun _ => ?_)
  refine AWp.seq ?_
  refine AWp.region E_ok.ok ?_
  first | refine s_pure rfl rfl (pv_fld T42 rfl rfl T4 (by decide) rfl) ?_ | refine s_pure rfl rfl (pv_fldi T42 rfl rfl T4 (by decide) rfl) ?_
  first | refine s_imm rfl rfl (rv_loadi rfl (part_sc T4 rfl rfl)) ?_ | refine s_read rfl rfl (rv_load rfl) (rfl) (part_sc T4 rfl rfl) ?_
  refine s_pure rfl rfl (pv_asg rfl) ?_
  refine s_nil ?_
  refine AWp.cond (b := false) rfl (fun h => by cases h) (fun _ => ?_)
  refine AWp.skip ?_
  refine AWp.seq ?_
  refine AWp.region E_ok.ok ?_
  first | refine s_pure rfl rfl (pv_fld T42 rfl rfl T40 (by decide) rfl) ?_ | refine s_pure rfl rfl (pv_fldi T42 rfl rfl T40 (by decide) rfl) ?_
  first | refine s_imm rfl rfl (rv_loadi rfl (part_sc T40 rfl rfl)) ?_ | refine s_read rfl rfl (rv_load rfl) (rfl) (part_sc T40 rfl rfl) ?_
  first | refine s_pure rfl rfl (pv_fld T42 rfl rfl T40 (by decide) rfl) ?_ | refine s_pure rfl rfl (pv_fldi T42 rfl rfl T40 (by decide) rfl) ?_
  first | refine s_imm rfl rfl (rv_loadi rfl (part_sc T40 rfl rfl)) ?_ | refine s_read rfl rfl (rv_load rfl) (rfl) (part_sc T40 rfl rfl) ?_
  refine s_callp rfl rfl rfl (hag nl nl' cap cap' (by omega) (by omega)) ?_
  rintro _ rfl
  refine s_pure rfl rfl (pv_asg rfl) ?_
  refine s_nil ?_
  refine AWp.ret ?_
  exact leaf_ok rfl rfl rfl
end Go.Am.Seat


namespace Go.Am.Seat
open Go Go.Am Go.Proofs
/-- the cells of a sum, of which k digits are worked out -/
def outC (l m : List Nat) (n k : Nat) : List AV := (List.range n).map fun i => encU (if i < k then PB.sdig WD l m i else 0)
theorem outC_len (l m : List Nat) (n k : Nat) : (outC l m n k).length = n := by simp [outC]
theorem outC_zero (l m : List Nat) (n : Nat) : outC l m n 0 = reps ty76.zero n := by
  show _ = reps [AV.int .u32 0] n
  rw [reps_one]
  simp only [outC, Nat.not_lt_zero, if_false]
  rw [List.map_const']
  simp [encU]
theorem outC_set {l m : List Nat} {n k i : Nat} (hi : i = k) (hk : k < n) : setRange (outC l m n k) i [encU (PB.sdig WD l m k)] = outC l m n (k + 1) := by
  subst hi
  rw [setRange_one _ _ _ (by rw [outC_len]; exact hk)]
  apply List.ext_getElem?
  intro j
  simp only [outC, List.getElem?_set, List.length_map, List.length_range, List.getElem?_map]
  by_cases hj : i = j
  · subst hj; simp [hk]
  · rw [if_neg hj]
    by_cases hjn : j < n
    · simp only [List.getElem?_range hjn, Option.map_some]
      by_cases h1 : j < i
      · rw [if_pos h1, if_pos (by omega)]
      · rw [if_neg h1, if_neg (by omega)]
    · rw [List.getElem?_eq_none (by simpa using hjn)]; rfl
theorem outC_all (l m : List Nat) (n k : Nat) : (outC l m n k).all AV.sc = true := by
  simp [outC, List.all_map, encU, AV.sc]
theorem outC_end (l m : List Nat) (n : Nat) : outC l m n n = ((List.range n).map (PB.sdig WD l m)).map encU := by
  simp only [outC, List.map_map]
  apply List.map_congr_left
  intro i hi
  simp only [List.mem_range] at hi
  simp [hi]
theorem plus_ok (nl nl' : Bool) (cap cap' : Option Nat) (l m : List Nat) (hl : l.length ≤ 100000) (hm : m.length ≤ 100000) (dl : ∀ d ∈ l, d < WD) (dm : ∀ d ∈ m, d < WD) :
    PureR E.C 81 [vU nl cap l, vU nl' cap' m] (fun r => ∃ cap, CapOk (max l.length m.length + 1) cap ∧ r = vU false cap ((List.range (max l.length m.length + 1)).map (PB.sdig WD l m))) := by
  refine PureR.of_empty plain (by simp [vU, noBlks, noBlk, noBlks_U]) ?_
  refine ACall.of_body E_ok.ok Tryz.func81 rfl (by kernel_rfl) ?_
  obtain ⟨n, hn⟩ : ∃ n, n = max l.length m.length + 1 := ⟨_, rfl⟩
  rw [← hn]
  have hdig := digit_ok
  have hcar := carry_ok
  dsimp only [vU] at hdig hcar ⊢
  refine AWp.seq ?_
  refine AWp.region E_ok.ok ?_
  refine s_pure rfl rfl (pv_asg rfl) ?_
  refine s_nil ?_
  refine AWp.seq ?_
  refine AWp.region E_ok.ok ?_
  refine s_pure rfl rfl (pv_mov rfl) ?_
  first | refine s_pure rfl rfl (pv_len T40 rfl rfl) ?_ | refine s_pure rfl rfl (pv_len_sl T40 rfl rfl) ?_
  refine s_pure rfl rfl (pv_mov rfl) ?_
  first | refine s_pure rfl rfl (pv_len T40 rfl rfl) ?_ | refine s_pure rfl rfl (pv_len_sl T40 rfl rfl) ?_
  first | refine s_pure rfl rfl (pv_maxN rfl rfl) ?_ | refine s_pure rfl rfl (pv_max rfl rfl) ?_
  refine s_pure rfl rfl (pv_add rfl rfl (by omega) (by omega)) ?_
  refine s_pure rfl rfl (pv_asg rfl) ?_
  refine s_nil ?_
  refine AWp.seq ?_
  refine AWp.region E_ok.ok ?_
  refine s_pure rfl rfl (pv_mov rfl) ?_
  refine s_new rfl rfl (nv_make (n := (n : Int)) (m := (n : Int)) T40 rfl T76 (int_eq (by omega)) (int_eq (by omega)) (by omega) (by omega) (by omega) (by show (4 : Int) * n ≤ 281474976710656; omega) rfl rfl) ?_
  refine s_pure rfl rfl (pv_asg rfl) ?_
  refine s_nil ?_
  refine AWp.seq ?_
  refine AWp.region E_ok.ok ?_
  refine s_pure rfl rfl (pv_asg rfl) ?_
  refine s_nil ?_
  refine AWp.seq ?_
  refine AWp.seq ?_
  refine AWp.region E_ok.ok ?_
  refine s_pure rfl rfl (pv_mov rfl) ?_
  refine s_pure rfl rfl (pv_mov rfl) ?_
  refine s_nil ?_
  refine AWp.block ?_
  refine AWp.loop (σ := {s : Nat × AH // s.1 ≤ n ∧ s.2.get 0 = some (.cells (outC l m n s.1)) ∧ 0 < s.2.next})
    (fun s => frL 38 [(0, .vec nl l.length cap (l.map encU)), (1, .vec nl' m.length cap' (m.map encU)), (6, .slice 0 0 n (some n) 1), (7, .int .u64 (PB.cry WD l m s.1.1 : Nat)), (17, .int .i64 n), (18, .int .i64 s.1.1)]) (fun s => s.1.2) (fun s => n - s.1.1)
    ⟨(0, _), Nat.zero_le _, (by rw [outC_zero]; rfl), Nat.zero_lt_one⟩ (Weak.frL rfl ⟨rfl, rfl, rfl, rfl, int_eq (by omega), rfl, trivial⟩) ?_
  rintro ⟨⟨k, A⟩, hk, h0, hn0⟩
  dsimp only at hk h0 hn0 ⊢
  refine AWp.seq ?_
  refine AWp.region E_ok.ok ?_
  refine s_splitP rfl rfl (pv_int rfl rfl rfl) decide_eq_true_iff ?_ ?_
  · intro h5x0
    have c1 := PB.cry_le wd2 dl dm k
    have g1 := PB.getD_lt (show 0 < WD by decide) dl k
    have g2 := PB.getD_lt (show 0 < WD by decide) dm k
    have gw : WD = 4294967296 := rfl
    have hsum : PB.cry WD l m k + [l.getD k 0, m.getD k 0].sum = l.getD k 0 + m.getD k 0 + PB.cry WD l m k := by simp only [List.sum_cons, List.sum_nil]; omega
    have hca := hcar (PB.cry WD l m k) false (some 2) [l.getD k 0, m.getD k 0] (by rw [hsum]; omega) (by intro d hd; simp only [List.mem_cons, List.not_mem_nil, or_false] at hd; rcases hd with rfl | rfl <;> omega) (by simp)
    rw [hsum] at hca
    have hlt : k < n := by omega
    refine s_nil ?_
    refine AWp.seq ?_
    refine AWp.cond (b := true) rfl (fun _ => ?_) (fun h => by cases h)
    refine AWp.skip ?_
    refine AWp.seq ?_
    refine AWp.block ?_
    refine AWp.seq ?_
    refine AWp.region E_ok.ok ?_
    refine s_pure rfl rfl (pv_mov rfl) ?_
    refine s_pure rfl rfl (pv_asg rfl) ?_
    refine s_nil ?_
    refine AWp.region E_ok.ok ?_
    refine s_pure rfl rfl (pv_mov rfl) ?_
    refine s_pure rfl rfl (pv_mov rfl) ?_
    refine s_pure rfl rfl (pv_mov rfl) ?_
    refine s_pure rfl rfl (pv_mov rfl) ?_
    refine s_pure rfl rfl (pv_mov rfl) ?_
    refine s_callp rfl rfl rfl (hdig nl cap l k) ?_
    rintro _ rfl
    refine s_pure rfl rfl (pv_mov rfl) ?_
    refine s_pure rfl rfl (pv_mov rfl) ?_
    refine s_callp rfl rfl rfl (hdig nl' cap' m k) ?_
    rintro _ rfl
    refine s_newG rfl rfl (nv_bs T40 rfl T76 ⟨by decide, rfl⟩ rfl rfl rfl) ?_
    intro A7x9 hn7x9 hg7x9 hk7x9
    replace h0 := hk7x9 _ _ (by omega) h0
    refine s_call rfl rfl rfl (PureR.lend1 plain hca hg7x9 (noBlks_U [l.getD k 0, m.getD k 0]) ⟨_, _, rfl, .inl ⟨rfl, rfl⟩, _, _, rfl, .inr ⟨2, some 2, 1, rfl, rfl, rfl⟩, rfl⟩ (by rintro _ rfl; rfl)) ?_
    rintro _ _ ⟨rfl, rfl⟩
    refine s_pure rfl rfl (pv_mov rfl) ?_
    refine s_pure rfl rfl (pv_ext rfl rfl) ?_
    refine s_pure rfl rfl (pv_ext rfl rfl) ?_
    first | refine s_pure rfl rfl (pv_idx T40 rfl T76 rfl rfl (by omega) (by omega) (rfl)) ?_ | refine s_pure rfl rfl (pv_idx_sl T40 rfl T76 rfl rfl (by omega) (by omega)) ?_
    refine s_putG rfl rfl (ev_store T76 rfl rfl (by intro vs h; cases h) h0 rfl (by rw [outC_len]; show 0 + (k : Int).toNat * 1 + 1 ≤ n; omega) rfl) ?_
    intro A1 hn1 hg1 hk1
    have hg1' : A1.get 0 = some (.cells (outC l m n (k + 1))) := by rw [hg1]; congr 2; exact outC_set (by show 0 + (k : Int).toNat * 1 = k; omega) hlt
    refine s_pure rfl rfl (pv_asg rfl) ?_
    refine s_nil ?_
    refine AWp.region E_ok.ok ?_
    refine s_pure rfl rfl (pv_add rfl rfl (by omega) (by omega)) ?_
    refine s_pure rfl rfl (pv_mov rfl) ?_
    refine s_nil ?_
    exact ⟨⟨(k + 1, A1), by dsimp only; omega, hg1', by dsimp only; omega⟩, by dsimp only; omega, Weak.frL rfl ⟨rfl, rfl, rfl, rfl, rfl, rfl, trivial⟩⟩
  · intro h5x0
    refine s_nil ?_
    refine AWp.seq ?_
    refine AWp.cond (b := false) rfl (fun h => by cases h) (fun _ => ?_)
    refine AWp.exit ?_
    obtain rfl : k = n := by omega
    refine AWp.seq ?_
    refine AWp.region E_ok.ok ?_
    refine s_pure rfl rfl (pv_mov rfl) ?_
    refine s_pure rfl rfl (pv_asg rfl) ?_
    refine s_nil ?_
    refine AWp.ret ?_
    refine leaf_made rfl h0 (by rw [outC_len]; omega) (Nat.le_refl _) (by rw [outC_end]; exact noBlks_U _) ⟨some k, Nat.le_refl _, ?_⟩
    rw [outC_end]; simp
theorem dig_sum (a b : Nat) : PB.trimZ ((List.range (max (PB.dig WD a).length (PB.dig WD b).length + 1)).map (PB.sdig WD (PB.dig WD a) (PB.dig WD b))) = PB.dig WD (a + b) := by
  rw [← PB.dig_val wd2 (PB.sdig_lt wd2 _ _ _), PB.sum_val wd2 (PB.dig_lt wd2 a) (PB.dig_lt wd2 b) (by omega) (by omega), PB.val_dig wd2, PB.val_dig wd2]
theorem add_ok (a b : Nat) (ra rb : AV) (ha : IsB a ra) (hb : IsB b rb) (ha64 : (PB.dig WD a).length ≤ 64) (hb64 : (PB.dig WD b).length ≤ 64) (hab : (PB.dig WD (a + b)).length ≤ 64) :
    PureR E.C 57 [ra, rb] (fun r => ∃ c, IsB (a + b) c ∧ r = .tuple [c, .int .i64 0]) := by
  have hra := bigRight_ok _ ra ha (PB.trimZ_dig wd2 a) ha64
  have hrb := bigRight_ok _ rb hb (PB.trimZ_dig wd2 b) hb64
  obtain ⟨nl, cap, rfl⟩ := ha
  obtain ⟨nl', cap', rfl⟩ := hb
  have hpl := plus_ok nl nl' cap cap' (PB.dig WD a) (PB.dig WD b) (by omega) (by omega) (PB.dig_lt wd2 a) (PB.dig_lt wd2 b)
  have hma := made_ok
  refine PureR.of_empty plain (by simp [vU, noBlks, noBlk, noBlks_U]) ?_
  refine ACall.of_body E_ok.ok Tryz.func57 rfl (by kernel_rfl) ?_
  dsimp only [vU] at hra hrb hpl hma ⊢
  have hn00 : AH.empty.next = 0 := rfl
  refine AWp.seq ?_
  refine AWp.region E_ok.ok ?_
  refine s_newG rfl rfl (nv_box rfl rfl) ?_
  intro A0x0 hn0x0 hg0x0 hk0x0
  refine s_newG rfl rfl (nv_box rfl rfl) ?_
  intro A0x1 hn0x1 hg0x1 hk0x1
  replace hg0x0 := hk0x1 _ _ (by omega) hg0x0
  refine s_newG rfl rfl (nv_alloc T42 rfl) ?_
  intro A0x2 hn0x2 hg0x2 hk0x2
  replace hg0x0 := hk0x2 _ _ (by omega) hg0x0
  replace hg0x1 := hk0x2 _ _ (by omega) hg0x1
  refine s_pure rfl rfl (pv_asg rfl) ?_
  refine s_nil ?_
  refine AWp.seq ?_
  refine AWp.seq ?_
  refine AWp.region E_ok.ok ?_
  first | refine s_imm rfl rfl (rv_loadi rfl (part_agg T42 rfl rfl rfl)) ?_ | refine s_read rfl rfl (rv_load rfl) hg0x2 (part_agg T42 rfl rfl rfl) ?_ | refine s_read rfl rfl (rv_load rfl) hg0x1 (part_agg T42 rfl rfl rfl) ?_ | refine s_read rfl rfl (rv_load rfl) hg0x0 (part_agg T42 rfl rfl rfl) ?_
  refine s_callp rfl rfl rfl hra ?_
  rintro _ rfl
  refine s_pure rfl rfl (pv_un rfl rfl) ?_
  refine s_pure rfl rfl (pv_mov rfl) ?_
  first | refine s_imm rfl rfl (rv_loadi rfl (part_agg T42 rfl rfl rfl)) ?_ | refine s_read rfl rfl (rv_load rfl) hg0x2 (part_agg T42 rfl rfl rfl) ?_ | refine s_read rfl rfl (rv_load rfl) hg0x1 (part_agg T42 rfl rfl rfl) ?_ | refine s_read rfl rfl (rv_load rfl) hg0x0 (part_agg T42 rfl rfl rfl) ?_
  refine s_callp rfl rfl rfl hrb ?_
  rintro _ rfl
  refine s_pure rfl rfl (pv_un rfl rfl) ?_
  first | refine s_pure rfl rfl (pv_pickT rfl rfl) ?_ | refine s_pure rfl rfl (pv_pickF rfl rfl) ?_
  refine s_nil ?_
  refine AWp.cond (b := false) rfl (fun h => by cases h) (fun _ => ?_)
  refine AWp.skip ?_
  refine AWp.seq ?_
  refine AWp.seq ?_
  refine AWp.region E_ok.ok ?_
  first | refine s_pure rfl rfl (pv_fld T42 rfl rfl T4 (by decide) rfl) ?_ | refine s_pure rfl rfl (pv_fldi T42 rfl rfl T4 (by decide) rfl) ?_
  first | refine s_imm rfl rfl (rv_loadi rfl (part_sc T4 rfl rfl)) ?_ | refine s_read rfl rfl (rv_load rfl) hg0x2 (part_sc T4 rfl rfl) ?_ | refine s_read rfl rfl (rv_load rfl) hg0x1 (part_sc T4 rfl rfl) ?_ | refine s_read rfl rfl (rv_load rfl) hg0x0 (part_sc T4 rfl rfl) ?_
  first | refine s_pure rfl rfl (pv_fld T42 rfl rfl T4 (by decide) rfl) ?_ | refine s_pure rfl rfl (pv_fldi T42 rfl rfl T4 (by decide) rfl) ?_
  first | refine s_imm rfl rfl (rv_loadi rfl (part_sc T4 rfl rfl)) ?_ | refine s_read rfl rfl (rv_load rfl) hg0x2 (part_sc T4 rfl rfl) ?_ | refine s_read rfl rfl (rv_load rfl) hg0x1 (part_sc T4 rfl rfl) ?_ | refine s_read rfl rfl (rv_load rfl) hg0x0 (part_sc T4 rfl rfl) ?_
  refine s_pure rfl rfl (pv_eqb T4 rfl rfl rfl) ?_
  refine s_nil ?_
  refine AWp.cond (b := true) rfl (fun _ => ?_) (fun h => by cases h)
  refine AWp.seq ?_
  refine AWp.drawq E_ok.ok (ord := [0, 1, 2, 3, 4, 5, 6, 7, 8, 9, 10, 11]) (by kernel_rfl) ?_
  first | refine q_pure rfl rfl rfl rfl (pv_fld T42 rfl rfl T4 (by decide) rfl) ?_ | refine q_pure rfl rfl rfl rfl (pv_fldi T42 rfl rfl T4 (by decide) rfl) ?_
  first | refine q_imm rfl rfl rfl rfl (rv_loadi rfl (part_sc T4 rfl rfl)) ?_ | refine q_read rfl rfl rfl rfl (rv_load rfl) hg0x2 (part_sc T4 rfl rfl) ?_ | refine q_read rfl rfl rfl rfl (rv_load rfl) hg0x1 (part_sc T4 rfl rfl) ?_ | refine q_read rfl rfl rfl rfl (rv_load rfl) hg0x0 (part_sc T4 rfl rfl) ?_
  first | refine q_pure rfl rfl rfl rfl (pv_fld T42 rfl rfl T40 (by decide) rfl) ?_ | refine q_pure rfl rfl rfl rfl (pv_fldi T42 rfl rfl T40 (by decide) rfl) ?_
  first | refine q_imm rfl rfl rfl rfl (rv_loadi rfl (part_sc T40 rfl rfl)) ?_ | refine q_read rfl rfl rfl rfl (rv_load rfl) hg0x2 (part_sc T40 rfl rfl) ?_ | refine q_read rfl rfl rfl rfl (rv_load rfl) hg0x1 (part_sc T40 rfl rfl) ?_ | refine q_read rfl rfl rfl rfl (rv_load rfl) hg0x0 (part_sc T40 rfl rfl) ?_
  first | refine q_pure rfl rfl rfl rfl (pv_fld T42 rfl rfl T40 (by decide) rfl) ?_ | refine q_pure rfl rfl rfl rfl (pv_fldi T42 rfl rfl T40 (by decide) rfl) ?_
  first | refine q_imm rfl rfl rfl rfl (rv_loadi rfl (part_sc T40 rfl rfl)) ?_ | refine q_read rfl rfl rfl rfl (rv_load rfl) hg0x2 (part_sc T40 rfl rfl) ?_ | refine q_read rfl rfl rfl rfl (rv_load rfl) hg0x1 (part_sc T40 rfl rfl) ?_ | refine q_read rfl rfl rfl rfl (rv_load rfl) hg0x0 (part_sc T40 rfl rfl) ?_
  refine q_callp rfl rfl rfl rfl rfl hpl ?_
  rintro _ ⟨cap1, hc1, rfl⟩
  refine q_callp rfl rfl rfl rfl rfl (hma false cap1 _ (by simpa using hc1) (by simp; omega) (by rw [dig_sum]; exact hab)) ?_
  rintro _ ⟨b, ⟨nl2, cap2, rfl⟩, rfl⟩
  rw [dig_sum]
  refine q_pure rfl rfl rfl rfl (pv_ext rfl rfl) ?_
  refine q_pure rfl rfl rfl rfl (pv_ext rfl rfl) ?_
  first | refine q_putG0 rfl rfl rfl rfl (by kernel_rfl) (ev_store T42 rfl rfl (by intro vs h; cases h) (hg0x2) rfl (by first | exact Nat.le_of_ble_eq_true rfl | (simp; omega)) rfl) ?_ | refine q_putG0 rfl rfl rfl rfl (by kernel_rfl) (ev_store T42 rfl rfl (by intro vs h; cases h) (hg0x1) rfl (by first | exact Nat.le_of_ble_eq_true rfl | (simp; omega)) rfl) ?_ | refine q_putG0 rfl rfl rfl rfl (by kernel_rfl) (ev_store T42 rfl rfl (by intro vs h; cases h) (hg0x0) rfl (by first | exact Nat.le_of_ble_eq_true rfl | (simp; omega)) rfl) ?_
  intro A4x10 hn4x10 hg4x10 hk4x10
  first | replace hg0x0 := hk4x10 _ _ (by omega) hg0x0 | skip
  first | replace hg0x1 := hk4x10 _ _ (by omega) hg0x1 | skip
  first | replace hg0x2 := hk4x10 _ _ (by omega) hg0x2 | skip
  refine q_pure rfl rfl rfl rfl (pv_asg rfl) ?_
  first | refine q_nil0 ?_ | refine q_nil ?_
  refine AWp.ret ?_
  exact leaf_ok (ret_ct rfl hg4x10 (part_agg T42 rfl rfl rfl) rfl) (by simp [noBlk, noBlks, noBlks_U, ty42, setRange, aCells, vU]) ⟨_, ⟨nl2, cap2, rfl⟩, rfl⟩
end Go.Am.Seat

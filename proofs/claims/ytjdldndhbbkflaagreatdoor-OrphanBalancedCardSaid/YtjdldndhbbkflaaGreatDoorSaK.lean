/- A part of the proof about cellularlaw49.OrphanBalanced: lemmas only; what they say is theirs alone and no condition of the claim. -/
import Derived.Test.YtjdldndhbbkflaaGreatDoorSaI
set_option autoImplicit false
set_option linter.unusedVariables false
set_option linter.unusedSimpArgs false
set_option maxRecDepth 100000
noncomputable section
namespace Go.Am.Seat
open Go Go.Am Go.Proofs
theorem bigR_ok (nl : Bool) (cap : Option Nat) (l : List Nat) (hc : CapOk l.length cap) (hl : l.length ≤ 1000000) (hlt : ∀ d ∈ l, d < 256) (h256 : (PB.trimZ l).length ≤ 256) :
    PureR E.C 37 [.bool false, vI nl cap l] (fun r => ∃ b, IsB (PB.val 256 l) b ∧ r = .tuple [b, .int .i64 0]) := by
  have htr := trimR_ok nl cap l hc hl
  have hmt : ∀ d ∈ PB.trimZ l, d < 256 := PB.trimZ_lt hlt
  have hmm : PB.trimZ (PB.trimZ l) = PB.trimZ l := by rw [← PB.dig_val wd256 hlt]; exact PB.trimZ_dig wd256 _
  have hv : PB.val 256 l = PB.val 256 (PB.trimZ l) := (PB.val_trimZ 256 l).symm
  rw [hv]
  refine PureR.of_empty plain (by simp [vI, noBlks, noBlk, noBlks_I]) ?_
  refine ACall.of_body E_ok.ok Tryz.func37 rfl (by kernel_rfl) ?_
  have hn00 : AH.empty.next = 0 := rfl
  dsimp only [vI] at htr ⊢
  generalize PB.trimZ l = m at *
  refine AWp.seq ?_
  refine AWp.region E_ok.ok ?_
  refine s_newG rfl rfl (nv_alloc T42 rfl) ?_
  intro A0x0 hn0x0 hg0x0 hk0x0
  refine s_pure rfl rfl (pv_asg rfl) ?_
  refine s_nil ?_
  refine AWp.seq ?_
  refine AWp.region E_ok.ok ?_
  refine s_pure rfl rfl (pv_mov rfl) ?_
  refine s_callp rfl rfl rfl htr ?_
  rintro _ rfl
  refine s_pure rfl rfl (pv_asg rfl) ?_
  refine s_nil ?_
  refine AWp.seq ?_
  refine AWp.seq ?_
  refine AWp.region E_ok.ok ?_
  refine s_pure rfl rfl (pv_mov rfl) ?_
  first | refine s_pure rfl rfl (pv_len T29 rfl rfl) ?_ | refine s_pure rfl rfl (pv_len_sl T29 rfl rfl) ?_
  refine s_splitP rfl rfl (pv_int rfl rfl rfl) decide_eq_true_iff ?_ ?_
  · intro h2x2
    omega
    --
  · intro h2x2
    refine s_nil ?_
    refine AWp.cond (b := false) rfl (fun h => by cases h) (fun _ => ?_)
    refine AWp.skip ?_
    refine AWp.seq ?_
    refine AWp.region E_ok.ok ?_
    refine s_newG rfl rfl (nv_alloc T42 rfl) ?_
    intro A4x0 hn4x0 hg4x0 hk4x0
    replace hg0x0 := hk4x0 _ _ (by omega) hg0x0
    refine s_nil ?_
    refine AWp.seq ?_
    refine AWp.seq ?_
    refine AWp.region E_ok.ok ?_
    refine s_pure rfl rfl (pv_asg rfl) ?_
    refine s_nil ?_
    refine AWp.block ?_
    have q0 : A0x0.next = 1 := by omega
    have q4 : A4x0.next = 2 := by omega
    rw [hn00] at hg0x0
    rw [q0] at hg4x0
    refine AWp.loop (σ := {s : Nat × AV × AH // s.2.2.get 0 = some (.cells ty42.zero) ∧ s.2.2.get 1 = some (.cells [.bool false, s.2.1]) ∧ (4 * (s.1 - 1) < m.length ∨ s.1 = 0) ∧ ∃ hi, Own 1 2 hi s.2.2 s.2.1 s.1 (((List.range s.1).map fun j => PB.hv m j 4).map encU)})
      (fun s => frL 57 [(0, .bool false), (1, .vec nl m.length (some m.length) (m.map encI)), (4, .ptr 0 0), (6, .ptr 1 0), (7, .int .i64 (4 * s.1.1 : Nat))]) (fun s => s.1.2.2) (fun s => m.length + 4 - 4 * s.1.1)
      ⟨(0, _, A4x0), hg0x0, hg4x0, .inr rfl, 2, .nil (nl := true) (Nat.le_refl _) (by dsimp only; omega)⟩ (Weak.frL rfl ⟨rfl, rfl, (by show some (AV.ptr AH.empty.next 0) = _; rw [hn00]), (by show some (AV.ptr A0x0.next 0) = _; rw [q0]), rfl, trivial⟩) ?_
    clear hg0x0 hg4x0 hk0x0 hk4x0 q0 q4 hn0x0 hn4x0
    rintro ⟨⟨j, v0, A⟩, h4, h6, hj, hi, hO⟩
    dsimp only at h4 h6 hj hO ⊢
    have hn0 := hO.next
    refine AWp.seq ?_
    refine AWp.seq ?_
    refine AWp.region E_ok.ok ?_
    refine s_pure rfl rfl (pv_mov rfl) ?_
    refine s_pure rfl rfl (pv_mov rfl) ?_
    first | refine s_pure rfl rfl (pv_len T29 rfl rfl) ?_ | refine s_pure rfl rfl (pv_len_sl T29 rfl rfl) ?_
    refine s_splitP rfl rfl (pv_int rfl rfl rfl) decide_eq_true_iff ?_ ?_
    · intro h6x3
      refine s_nil ?_
      refine AWp.cond (b := true) rfl (fun _ => ?_) (fun h => by cases h)
      refine AWp.skip ?_
      refine AWp.seq ?_
      refine AWp.block ?_
      refine AWp.seq ?_
      refine AWp.region E_ok.ok ?_
      refine s_pure rfl rfl (pv_asg rfl) ?_
      refine s_nil ?_
      refine AWp.seq ?_
      refine AWp.seq ?_
      refine AWp.region E_ok.ok ?_
      refine s_pure rfl rfl (pv_asg rfl) ?_
      refine s_nil ?_
      refine AWp.block ?_
      refine AWp.loop (σ := {s : Nat × AH // s.1 ≤ 4 ∧ s.2 = A})
        (fun s => frL 57 [(0, .bool false), (1, .vec nl m.length (some m.length) (m.map encI)), (4, .ptr 0 0), (6, .ptr 1 0), (7, .int .i64 (4 * j : Nat)), (8, .int .u32 (PB.hv m j s.1.1 : Nat)), (9, .int .i64 (3 - s.1.1))]) (fun s => s.1.2) (fun s => 4 - s.1.1)
        ⟨(0, A), Nat.zero_le _, rfl⟩ (Weak.frL rfl ⟨rfl, rfl, rfl, rfl, rfl, rfl, rfl, trivial⟩) ?_
      rintro ⟨⟨r, A1⟩, hr, hAA⟩
      dsimp only at hr hAA ⊢
      subst hAA
      have hb := PB.hv_lt hmt j r
      refine AWp.seq ?_
      refine AWp.seq ?_
      refine AWp.region E_ok.ok ?_
      refine s_pure rfl rfl (pv_mov rfl) ?_
      refine s_splitP rfl rfl (pv_int rfl rfl rfl) decide_eq_true_iff ?_ ?_
      · intro h10x1
        have hb2 : PB.hv m j r < 16777216 := Nat.lt_of_lt_of_le hb (show 256 ^ r ≤ 256 ^ 3 from Nat.pow_le_pow_right (by decide) (by omega))
        refine s_nil ?_
        refine AWp.cond (b := true) rfl (fun _ => ?_) (fun h => by cases h)
        refine AWp.skip ?_
        refine AWp.seq ?_
        refine AWp.block ?_
        refine AWp.seq ?_
        refine AWp.region E_ok.ok ?_
        refine s_pure rfl rfl (pv_mov rfl) ?_
        refine s_pure rfl rfl (pv_mulk (M := 4294967295) rfl rfl rfl (by omega) (by omega)) ?_
        refine s_pure rfl rfl (pv_asg rfl) ?_
        refine s_nil ?_
        refine AWp.seq ?_
        refine AWp.region E_ok.ok ?_
        refine s_pure rfl rfl (pv_mov rfl) ?_
        refine s_pure rfl rfl (pv_mov rfl) ?_
        refine s_pure rfl rfl (pv_add rfl rfl (by omega) (by omega)) ?_
        refine s_pure rfl rfl (pv_mov rfl) ?_
        first | refine s_pure rfl rfl (pv_len T29 rfl rfl) ?_ | refine s_pure rfl rfl (pv_len_sl T29 rfl rfl) ?_
        refine s_splitP rfl rfl (pv_int rfl rfl rfl) decide_eq_true_iff ?_ ?_
        · intro h13x5
          obtain ⟨d, hd⟩ := get_some (show 4 * j + (3 - r) < m.length by omega)
          have hkk : ((4 * j : Nat) : Int) + (3 - (r : Int)) = (4 * j + (3 - r) : Nat) := by omega
          have hdl := hmt d (List.mem_of_getElem? hd)
          have hgd : m.getD (4 * j + (3 - r)) 0 = d := by rw [List.getD_eq_getElem?_getD, hd]; rfl
          refine s_nil ?_
          refine AWp.cond (b := true) rfl (fun _ => ?_) (fun h => by cases h)
          refine AWp.region E_ok.ok ?_
          refine s_pure rfl rfl (pv_mov rfl) ?_
          refine s_pure rfl rfl (pv_mov rfl) ?_
          refine s_pure rfl rfl (pv_mov rfl) ?_
          refine s_pure rfl rfl (pv_mov rfl) ?_
          refine s_pure rfl rfl (pv_add rfl rfl (by omega) (by omega)) ?_
          first | refine s_pure rfl rfl (pv_idx T29 rfl T3 rfl rfl (by omega) (by omega) (drop_map hkk hd)) ?_ | refine s_pure rfl rfl (pv_idx_sl T29 rfl T3 rfl rfl (by omega) (by omega)) ?_
          first | refine s_imm rfl rfl (rv_loadi rfl (part_sc T3 rfl rfl)) ?_ | refine s_read rfl rfl (rv_load rfl) h6 (part_sc T3 rfl rfl) ?_ | refine s_read rfl rfl (rv_load rfl) h4 (part_sc T3 rfl rfl) ?_
          first | refine s_pure rfl rfl (pv_convk T3 T76 rfl (M := 4294967295) rfl rfl (by omega) (by omega)) ?_ | refine s_pure rfl rfl (pv_conv32 T3 T76 rfl rfl) ?_ | refine s_pure rfl rfl (pv_conv T3 T76 rfl rfl) ?_
          refine s_pure rfl rfl (pv_addk (M := 4294967295) rfl rfl rfl (by omega) (by omega)) ?_
          refine s_pure rfl rfl (pv_asg rfl) ?_
          refine s_nil ?_
          refine AWp.region E_ok.ok ?_
          refine s_pure rfl rfl (pv_mov rfl) ?_
          refine s_pure rfl rfl (pv_sub rfl rfl (by omega) (by omega)) ?_
          refine s_pure rfl rfl (pv_asg rfl) ?_
          refine s_nil ?_
          exact ⟨⟨(r + 1, A1), by dsimp only; omega, rfl⟩, by dsimp only; omega, Weak.frL rfl ⟨rfl, rfl, rfl, rfl, rfl, int_eq (by dsimp only [PB.hv]; rw [hgd]; omega), int_eq (by dsimp only; omega), trivial⟩⟩
        · intro h13x5
          have hgd : m.getD (4 * j + (3 - r)) 0 = 0 := PB.getD_zero (by omega)
          refine s_nil ?_
          refine AWp.cond (b := false) rfl (fun h => by cases h) (fun _ => ?_)
          refine AWp.skip ?_
          refine AWp.region E_ok.ok ?_
          refine s_pure rfl rfl (pv_mov rfl) ?_
          refine s_pure rfl rfl (pv_sub rfl rfl (by omega) (by omega)) ?_
          refine s_pure rfl rfl (pv_asg rfl) ?_
          refine s_nil ?_
          exact ⟨⟨(r + 1, A1), by dsimp only; omega, rfl⟩, by dsimp only; omega, Weak.frL rfl ⟨rfl, rfl, rfl, rfl, rfl, int_eq (by dsimp only [PB.hv]; rw [hgd]; omega), int_eq (by dsimp only; omega), trivial⟩⟩
      · intro h10x1
        refine s_nil ?_
        refine AWp.cond (b := false) rfl (fun h => by cases h) (fun _ => ?_)
        refine AWp.exit ?_
        obtain rfl : r = 4 := by omega
        refine AWp.region E_ok.ok ?_
        first | refine s_pure rfl rfl (pv_fld T42 rfl rfl T40 (by decide) rfl) ?_ | refine s_pure rfl rfl (pv_fldi T42 rfl rfl T40 (by decide) rfl) ?_
        first | refine s_imm rfl rfl (rv_loadi rfl (part_sc T40 rfl rfl)) ?_ | refine s_read rfl rfl (rv_load rfl) h6 (part_sc T40 rfl rfl) ?_ | refine s_read rfl rfl (rv_load rfl) h4 (part_sc T40 rfl rfl) ?_
        refine s_pure rfl rfl (pv_mov rfl) ?_
        refine s_newG rfl rfl (nv_bs T40 rfl T76 ⟨by decide, rfl⟩ rfl rfl rfl) ?_
        intro A15x3 hn15x3 hg15x3 hk15x3
        replace h4 := hk15x3 _ _ (by omega) h4
        replace h6 := hk15x3 _ _ (by omega) h6
        replace hO := hO.grow hk15x3 (by omega)
        refine s_app rfl rfl (ev_app T40 rfl T76 hO rfl rfl hg15x3 rfl rfl rfl rfl (by show (2 * (_ + 1) + 192) * 4 ≤ 281474976710656; omega) (by omega)) ?_
        clear hO
        intro v15x4 A15x4 hO hk15x4 hn15x4
        first | replace h4 := hk15x4 _ _ (by omega) h4 | clear h4
        first | replace h6 := hk15x4 _ _ (by omega) h6 | clear h6
        first | refine s_pure rfl rfl (pv_fld T42 rfl rfl T40 (by decide) rfl) ?_ | refine s_pure rfl rfl (pv_fldi T42 rfl rfl T40 (by decide) rfl) ?_
        have hac := hO.aCells
        have hsc := hO.vsc
        refine s_putG rfl rfl (ev_store T40 rfl rfl hO.ntup h6 (by rw [hac]; rfl) (by rw [hac]; exact Nat.le_of_ble_eq_true rfl) (by rw [hac]; simp [hsc])) ?_
        intro A15x6 hn15x6 hg15x6 hk15x6
        rw [hac] at hg15x6
        replace h4 := hk15x6 _ _ (by omega) h4
        replace hO := hO.chg hk15x6 (by omega) (by omega)
        refine s_nil ?_
        refine AWp.region E_ok.ok ?_
        refine s_pure rfl rfl (pv_mov rfl) ?_
        refine s_pure rfl rfl (pv_add rfl rfl (by omega) (by omega)) ?_
        refine s_pure rfl rfl (pv_asg rfl) ?_
        refine s_nil ?_
        have hO' : Own 1 2 A15x4.next A15x6 v15x4 (j + 1) (((List.range (j + 1)).map fun j => PB.hv m j 4).map encU) := by
          rw [List.range_succ, List.map_append, List.map_append]
          exact hO
        exact ⟨⟨(j + 1, v15x4, A15x6), h4, hg15x6, .inl (by dsimp only; omega), _, hO'⟩, by dsimp only; omega, Weak.frL rfl ⟨rfl, rfl, rfl, rfl, int_eq (by dsimp only; omega), trivial⟩⟩
    · intro h6x3
      refine s_nil ?_
      refine AWp.cond (b := false) rfl (fun h => by cases h) (fun _ => ?_)
      refine AWp.exit ?_
      refine AWp.seq ?_
      refine AWp.region E_ok.ok ?_
      refine s_pure rfl rfl (pv_mov rfl) ?_
      refine s_pure rfl rfl (pv_mov rfl) ?_
      refine s_skip rfl rfl ?_
      refine s_skip rfl rfl ?_
      refine s_skip rfl rfl ?_
      first | refine s_pure rfl rfl (pv_pickT rfl rfl) ?_ | refine s_pure rfl rfl (pv_pickF rfl rfl) ?_
      first | refine s_pure rfl rfl (pv_fld T42 rfl rfl T4 (by decide) rfl) ?_ | refine s_pure rfl rfl (pv_fldi T42 rfl rfl T4 (by decide) rfl) ?_
      first | refine s_putG rfl rfl (ev_store T4 rfl rfl (by intro vs h; cases h) (h6) rfl (by first | exact Nat.le_of_ble_eq_true rfl | (simp; omega)) rfl) ?_ | refine s_putG rfl rfl (ev_store T4 rfl rfl (by intro vs h; cases h) (h4) rfl (by first | exact Nat.le_of_ble_eq_true rfl | (simp; omega)) rfl) ?_
      intro A16x7 hn16x7 hg16x7 hk16x7
      first | replace h4 := hk16x7 _ _ (by omega) h4 | skip
      first | replace h6 := hk16x7 _ _ (by omega) h6 | skip
      replace hO := hO.chg hk16x7 (by omega) (by omega)
      refine s_nil ?_
      refine AWp.seq ?_
      refine AWp.region E_ok.ok ?_
      first | refine s_imm rfl rfl (rv_loadi rfl (part_agg T42 rfl rfl rfl)) ?_ | refine s_read rfl rfl (rv_load rfl) hg16x7 (part_agg T42 rfl rfl rfl) ?_ | refine s_read rfl rfl (rv_load rfl) h6 (part_agg T42 rfl rfl rfl) ?_ | refine s_read rfl rfl (rv_load rfl) h4 (part_agg T42 rfl rfl rfl) ?_
      have hsc := hO.vsc
      refine s_putG rfl rfl (ev_store T42 rfl rfl (by intro vs h; cases h) h4 rfl (by exact Nat.le_of_ble_eq_true rfl) (by show (AV.sc (.bool false) && (v0.sc && true)) = true; rw [hsc]; rfl)) ?_
      intro A17x1 hn17x1 hg17x1 hk17x1
      replace hO := hO.chg hk17x1 (by omega) (by omega)
      refine s_pure rfl rfl (pv_asg rfl) ?_
      refine s_nil ?_
      refine AWp.ret ?_
      have hval : PB.val WD ((List.range j).map fun j => PB.hv m j 4) = PB.val 256 m := by
        have := PB.val_words m j
        rw [List.take_of_length_le (by omega)] at this
        exact this
      have hcan : (List.range j).map (fun j => PB.hv m j 4) = PB.dig WD (PB.val 256 m) := by
        rw [← hval, PB.dig_val wd2]
        · exact (PB.words_top hmm hj (by omega)).symm
        · intro d hd
          obtain ⟨q, _, rfl⟩ := List.mem_map.1 hd
          exact PB.hv_lt hmt q 4
      have hjl : j = (PB.dig WD (PB.val 256 m)).length := by rw [← hcan]; simp
      rw [hcan] at hO
      exact leaf_own1 (f := fun v => .tuple [.agg [.bool false, v], .int .i64 0]) (ret_ct rfl hg17x1 (part_agg T42 rfl rfl rfl) rfl) hO (noBlks_U _)
        (fun k A v u h => freeze_tup2 (freeze_agg2 rfl h) rfl) fun nl2 cap2 _ _ => ⟨.agg [.bool false, vU nl2 cap2 _], ⟨nl2, cap2, rfl⟩, by simp only [vU, ← hjl]⟩
end Go.Am.Seat


namespace Go.Am.Seat
open Go Go.Am Go.Proofs
theorem fromR_ok (n : Nat) (hn : n ≤ 9223372036854775807) : PureR E.C 14 [.int .i64 (n : Int)] (IsB n) := by
  have hlen : (PB.dig 256 n).length ≤ 8 := PB.dig_len wd256 8 n (by omega)
  refine PureR.of_empty plain rfl ?_
  refine ACall.of_body E_ok.ok Tryz.func14 rfl (by kernel_rfl) ?_
  have hn00 : AH.empty.next = 0 := rfl
  have hbig := bigR_ok
  dsimp only [vI] at hbig
  refine AWp.seq ?_
  refine AWp.region E_ok.ok ?_
  refine s_newG rfl rfl (nv_alloc T42 rfl) ?_
  intro A0x0 hn0x0 hg0x0 hk0x0
  refine s_nil ?_
  refine AWp.seq ?_
  refine AWp.region E_ok.ok ?_
  refine s_pure rfl rfl (pv_mov rfl) ?_
  first | refine s_pure rfl rfl (pv_convk T3 T72 rfl (M := 18446744073709551615) rfl rfl (by omega) (by omega)) ?_ | refine s_pure rfl rfl (pv_conv T3 T72 rfl rfl) ?_
  refine s_pure rfl rfl (pv_asg rfl) ?_
  refine s_nil ?_
  refine AWp.seq ?_
  refine AWp.seq ?_
  refine AWp.region E_ok.ok ?_
  refine s_pure rfl rfl (pv_mov rfl) ?_
  refine s_splitP rfl rfl (pv_int rfl rfl rfl) decide_eq_true_iff ?_ ?_
  · intro h2x1
    omega
    --
  · intro h2x1
    refine s_nil ?_
    refine AWp.cond (b := false) rfl (fun h => by cases h) (fun _ => ?_)
    refine AWp.skip ?_
    refine AWp.seq ?_
    refine AWp.region E_ok.ok ?_
    refine s_pure rfl rfl (pv_asg rfl) ?_
    refine s_nil ?_
    refine AWp.seq ?_
    refine AWp.block ?_
    rw [hn00] at hg0x0
    refine AWp.loop (σ := {s : Nat × Nat × AV × AH // s.2.2.2.get 0 = some (.cells ty42.zero) ∧ s.2.1 ≤ n ∧ ∃ L hi, L ++ PB.dig 256 s.2.1 = PB.dig 256 n ∧ L.length = s.1 ∧ Own 1 1 hi s.2.2.2 s.2.2.1 s.1 (L.map encI)})
      (fun s => frL 31 [(0, .int .i64 n), (2, .ptr 0 0), (3, .int .u64 (s.1.2.1 : Nat)), (4, s.1.2.2.1)]) (fun s => s.1.2.2.2) (fun s => s.1.2.1)
      ⟨(0, n, _, A0x0), hg0x0, Nat.le_refl _, [], 1, rfl, rfl, .nil (nl := true) (Nat.le_refl _) (by dsimp only; omega)⟩ (Weak.frL rfl ⟨rfl, (by show some (AV.ptr AH.empty.next 0) = _; rw [hn00]), rfl, rfl, trivial⟩) ?_
    clear hg0x0 hk0x0 hn0x0
    rintro ⟨⟨j, u, v0, A⟩, h2, hun, L, hi, hL, hLj, hO⟩
    dsimp only at h2 hun hL hLj hO ⊢
    have hn0 := hO.next
    have hjl : j + (PB.dig 256 u).length = (PB.dig 256 n).length := by rw [← hL, List.length_append, hLj]
    refine AWp.seq ?_
    refine AWp.seq ?_
    refine AWp.region E_ok.ok ?_
    refine s_pure rfl rfl (pv_mov rfl) ?_
    refine s_splitP rfl rfl (pv_int rfl rfl rfl) decide_eq_true_iff ?_ ?_
    · intro h5x1
      have hdu := PB.dig_pos wd256 (show 0 < u by omega)
      refine s_nil ?_
      refine AWp.cond (b := true) rfl (fun _ => ?_) (fun h => by cases h)
      refine AWp.skip ?_
      refine AWp.block ?_
      refine AWp.seq ?_
      refine AWp.region E_ok.ok ?_
      refine s_pure rfl rfl (pv_mov rfl) ?_
      refine s_pure rfl rfl (pv_mov rfl) ?_
      refine s_pure rfl rfl (pv_rem rfl rfl (by omega) (by omega)) ?_
      first | refine s_pure rfl rfl (pv_convk T72 T3 rfl (M := 9223372036854775807) rfl rfl (by omega) (by omega)) ?_ | refine s_pure rfl rfl (pv_conv T72 T3 rfl rfl) ?_
      refine s_newG rfl rfl (nv_bs T29 rfl T3 ⟨by decide, rfl⟩ rfl rfl rfl) ?_
      intro A6x4 hn6x4 hg6x4 hk6x4
      replace h2 := hk6x4 _ _ (by omega) h2
      replace hO := hO.grow hk6x4 (by omega)
      refine s_app rfl rfl (ev_app T29 rfl T3 hO rfl rfl hg6x4 rfl rfl rfl rfl (by show (2 * (_ + 1) + 192) * 8 ≤ 281474976710656; omega) (by omega)) ?_
      clear hO
      intro v6x5 A6x5 hO hk6x5 hn6x5
      first | replace h2 := hk6x5 _ _ (by omega) h2 | clear h2
      refine s_pure rfl rfl (pv_asg rfl) ?_
      refine s_nil ?_
      refine AWp.region E_ok.ok ?_
      refine s_pure rfl rfl (pv_mov rfl) ?_
      refine s_pure rfl rfl (pv_quok (M := 18446744073709551615) rfl rfl rfl (by omega) (by omega) (by omega)) ?_
      refine s_pure rfl rfl (pv_asg rfl) ?_
      refine s_nil ?_
      have hO' : Own 1 1 A6x5.next A6x5 v6x5 (j + 1) ((L ++ [u % 256]).map encI) := by
        rw [List.map_append]; exact hO
      exact ⟨⟨(j + 1, u / 256, v6x5, A6x5), h2, by dsimp only; omega, L ++ [u % 256], _, by rw [← hL, hdu]; simp, by simp [hLj], hO'⟩, by dsimp only; omega, Weak.frL rfl ⟨rfl, rfl, rfl, rfl, trivial⟩⟩
    · intro h5x1
      refine s_nil ?_
      refine AWp.cond (b := false) rfl (fun h => by cases h) (fun _ => ?_)
      refine AWp.exit ?_
      have hu0 : u = 0 := by omega
      subst hu0
      rw [PB.dig_zero, List.append_nil] at hL
      subst hL
      refine AWp.freeze (l := fun nl cap => [(0, .int .i64 n), (2, .ptr 0 0), (4, .vec nl j cap ((PB.dig 256 n).map encI))]) hO rfl (fun nl cap => ⟨.inl rfl, .inl rfl, .inr ⟨rfl, rfl⟩, trivial⟩) ?_
      intro nl2 cap2 A2 hnl2 hcap2 hK2 hn2
      replace h2 := hK2 _ _ (by omega) h2
      clear hO
      rw [← hLj] at hcap2 ⊢
      refine AWp.seq ?_
      refine AWp.region E_ok.ok ?_
      refine s_pure rfl rfl (pv_mov rfl) ?_
      refine s_splitP rfl rfl (pv_int rfl rfl rfl) decide_eq_true_iff ?_ ?_
      · intro h8x1
        omega
        --
      · intro h8x1
        refine s_pure rfl rfl (pv_mov rfl) ?_
        refine s_callp rfl rfl rfl (hbig nl2 cap2 (PB.dig 256 n) hcap2 (by omega) (PB.dig_lt wd256 n) (by rw [PB.trimZ_dig wd256]; omega)) ?_
        rintro _ ⟨b, ⟨nl3, cap3, rfl⟩, rfl⟩
        rw [PB.val_dig wd256]
        refine s_pure rfl rfl (pv_mov rfl) ?_
        refine s_pure rfl rfl (pv_ext rfl rfl) ?_
        refine s_pure rfl rfl (pv_ext rfl rfl) ?_
        refine s_newG rfl rfl (nv_alloc T42 rfl) ?_
        intro A8x7 hn8x7 hg8x7 hk8x7
        replace h2 := hk8x7 _ _ (by omega) h2
        first | refine s_putG rfl rfl (ev_store T42 rfl rfl (by intro vs h; cases h) (hg8x7) rfl (by first | exact Nat.le_of_ble_eq_true rfl | (simp; omega)) rfl) ?_ | refine s_putG rfl rfl (ev_store T42 rfl rfl (by intro vs h; cases h) (h2) rfl (by first | exact Nat.le_of_ble_eq_true rfl | (simp; omega)) rfl) ?_
        intro A8x8 hn8x8 hg8x8 hk8x8
        first | replace h2 := hk8x8 _ _ (by omega) h2 | skip
        first | replace hg8x7 := hk8x8 _ _ (by omega) hg8x7 | skip
        refine s_pure rfl rfl (pv_asg rfl) ?_
        refine s_nil ?_
        refine AWp.seq ?_
        refine AWp.region E_ok.ok ?_
        first | refine s_imm rfl rfl (rv_loadi rfl (part_agg T42 rfl rfl rfl)) ?_ | refine s_read rfl rfl (rv_load rfl) hg8x8 (part_agg T42 rfl rfl rfl) ?_ | refine s_read rfl rfl (rv_load rfl) hg8x7 (part_agg T42 rfl rfl rfl) ?_ | refine s_read rfl rfl (rv_load rfl) h2 (part_agg T42 rfl rfl rfl) ?_
        first | refine s_putG rfl rfl (ev_store T42 rfl rfl (by intro vs h; cases h) (hg8x8) rfl (by first | exact Nat.le_of_ble_eq_true rfl | (simp; omega)) rfl) ?_ | refine s_putG rfl rfl (ev_store T42 rfl rfl (by intro vs h; cases h) (hg8x7) rfl (by first | exact Nat.le_of_ble_eq_true rfl | (simp; omega)) rfl) ?_ | refine s_putG rfl rfl (ev_store T42 rfl rfl (by intro vs h; cases h) (h2) rfl (by first | exact Nat.le_of_ble_eq_true rfl | (simp; omega)) rfl) ?_
        intro A9x1 hn9x1 hg9x1 hk9x1
        first | replace h2 := hk9x1 _ _ (by omega) h2 | skip
        first | replace hg8x7 := hk9x1 _ _ (by omega) hg8x7 | skip
        first | replace hg8x8 := hk9x1 _ _ (by omega) hg8x8 | skip
        refine s_nil ?_
        refine AWp.ret ?_
        exact leaf_ok (ret_c rfl hg9x1 (part_agg T42 rfl rfl rfl)) (by simp [noBlk, noBlks, noBlks_U, ty42, setRange, aCells, vU]) ⟨nl3, cap3, rfl⟩
theorem addR_ok (a b : Nat) (ra rb : AV) (ha : IsB a ra) (hb : IsB b rb) (ha64 : (PB.dig WD a).length ≤ 64) (hb64 : (PB.dig WD b).length ≤ 64) (ha8 : (PB.dig 256 a).length ≤ 1000) (hb8 : (PB.dig 256 b).length ≤ 1000) (hab8 : (PB.dig 256 (a + b)).length ≤ 256) :
    PureR E.C 17 [ra, rb] (fun r => ∃ c, IsB (a + b) c ∧ r = .tuple [c, .int .i64 0]) := by
  have hra := bigRightR_ok _ ra ha (PB.trimZ_dig wd2 a) ha64
  have hrb := bigRightR_ok _ rb hb (PB.trimZ_dig wd2 b) hb64
  have hba := bytes_ok a ra ha (by omega)
  have hbb := bytes_ok b rb hb (by omega)
  have hbig := bigR_ok
  have hpl := fun nl nl' cap cap' => plusR_ok nl nl' cap cap' (PB.dig 256 a) (PB.dig 256 b) (by omega) (by omega) (PB.dig_lt wd256 a) (PB.dig_lt wd256 b)
  rw [PB.val_dig wd256, PB.val_dig wd256] at hpl
  obtain ⟨nl, cap, rfl⟩ := ha
  obtain ⟨nl', cap', rfl⟩ := hb
  refine PureR.of_empty plain (by simp [vU, noBlks, noBlk, noBlks_U]) ?_
  refine ACall.of_body E_ok.ok Tryz.func17 rfl (by kernel_rfl) ?_
  have hn00 : AH.empty.next = 0 := rfl
  dsimp only [vU, vI] at hra hrb hba hbb hpl hbig ⊢
  refine AWp.seq ?_
  refine AWp.region E_ok.ok ?_
  refine s_newG rfl rfl (nv_box rfl rfl) ?_
  intro A0x0 hn0x0 hg0x0 hk0x0
  refine s_newG rfl rfl (nv_box rfl rfl) ?_
  intro A0x1 hn0x1 hg0x1 hk0x1
  replace hg0x0 := hk0x1 _ _ (by omega) hg0x0
  refine s_newG rfl rfl (nv_alloc T42 rfl) ?_
  intro A0x2 hn0x2 hg0x2 hk0x2
  replace hg0x0 := hk0x2 _ _ (by omega) hg0x0
  replace hg0x1 := hk0x2 _ _ (by omega) hg0x1
  refine s_pure rfl rfl (pv_asg rfl) ?_
  refine s_nil ?_
  refine AWp.seq ?_
  refine AWp.seq ?_
  refine AWp.region E_ok.ok ?_
  first | refine s_imm rfl rfl (rv_loadi rfl (part_agg T42 rfl rfl rfl)) ?_ | refine s_read rfl rfl (rv_load rfl) hg0x2 (part_agg T42 rfl rfl rfl) ?_ | refine s_read rfl rfl (rv_load rfl) hg0x1 (part_agg T42 rfl rfl rfl) ?_ | refine s_read rfl rfl (rv_load rfl) hg0x0 (part_agg T42 rfl rfl rfl) ?_
  refine s_callp rfl rfl rfl hra ?_
  rintro _ rfl
  refine s_pure rfl rfl (pv_un rfl rfl) ?_
  refine s_pure rfl rfl (pv_mov rfl) ?_
  first | refine s_imm rfl rfl (rv_loadi rfl (part_agg T42 rfl rfl rfl)) ?_ | refine s_read rfl rfl (rv_load rfl) hg0x2 (part_agg T42 rfl rfl rfl) ?_ | refine s_read rfl rfl (rv_load rfl) hg0x1 (part_agg T42 rfl rfl rfl) ?_ | refine s_read rfl rfl (rv_load rfl) hg0x0 (part_agg T42 rfl rfl rfl) ?_
  refine s_callp rfl rfl rfl hrb ?_
  rintro _ rfl
  refine s_pure rfl rfl (pv_un rfl rfl) ?_
  first | refine s_pure rfl rfl (pv_pickT rfl rfl) ?_ | refine s_pure rfl rfl (pv_pickF rfl rfl) ?_
  refine s_nil ?_
  refine AWp.cond (b := false) rfl (fun h => by cases h) (fun _ => ?_)
  refine AWp.skip ?_
  refine AWp.seq ?_
  refine AWp.drawq E_ok.ok (ord := [0, 2, 1, 3, 4, 5]) (by kernel_rfl) ?_
  first | refine q_imm rfl rfl rfl rfl (rv_loadi rfl (part_agg T42 rfl rfl rfl)) ?_ | refine q_read rfl rfl rfl rfl (rv_load rfl) hg0x2 (part_agg T42 rfl rfl rfl) ?_ | refine q_read rfl rfl rfl rfl (rv_load rfl) hg0x1 (part_agg T42 rfl rfl rfl) ?_ | refine q_read rfl rfl rfl rfl (rv_load rfl) hg0x0 (part_agg T42 rfl rfl rfl) ?_
  first | refine q_imm rfl rfl rfl rfl (rv_loadi rfl (part_agg T42 rfl rfl rfl)) ?_ | refine q_read rfl rfl rfl rfl (rv_load rfl) hg0x2 (part_agg T42 rfl rfl rfl) ?_ | refine q_read rfl rfl rfl rfl (rv_load rfl) hg0x1 (part_agg T42 rfl rfl rfl) ?_ | refine q_read rfl rfl rfl rfl (rv_load rfl) hg0x0 (part_agg T42 rfl rfl rfl) ?_
  refine q_callp rfl rfl rfl rfl rfl hba ?_
  rintro _ ⟨nl1, cap1, hc1, rfl⟩
  refine q_callp rfl rfl rfl rfl rfl hbb ?_
  rintro _ ⟨nl2, cap2, hc2, rfl⟩
  refine q_pure rfl rfl rfl rfl (pv_asg rfl) ?_
  refine q_pure rfl rfl rfl rfl (pv_asg rfl) ?_
  first | refine q_nil0 ?_ | refine q_nil ?_
  refine AWp.seq ?_
  refine AWp.seq ?_
  refine AWp.region E_ok.ok ?_
  first | refine s_pure rfl rfl (pv_fld T42 rfl rfl T4 (by decide) rfl) ?_ | refine s_pure rfl rfl (pv_fldi T42 rfl rfl T4 (by decide) rfl) ?_
  first | refine s_imm rfl rfl (rv_loadi rfl (part_sc T4 rfl rfl)) ?_ | refine s_read rfl rfl (rv_load rfl) hg0x2 (part_sc T4 rfl rfl) ?_ | refine s_read rfl rfl (rv_load rfl) hg0x1 (part_sc T4 rfl rfl) ?_ | refine s_read rfl rfl (rv_load rfl) hg0x0 (part_sc T4 rfl rfl) ?_
  first | refine s_pure rfl rfl (pv_fld T42 rfl rfl T4 (by decide) rfl) ?_ | refine s_pure rfl rfl (pv_fldi T42 rfl rfl T4 (by decide) rfl) ?_
  first | refine s_imm rfl rfl (rv_loadi rfl (part_sc T4 rfl rfl)) ?_ | refine s_read rfl rfl (rv_load rfl) hg0x2 (part_sc T4 rfl rfl) ?_ | refine s_read rfl rfl (rv_load rfl) hg0x1 (part_sc T4 rfl rfl) ?_ | refine s_read rfl rfl (rv_load rfl) hg0x0 (part_sc T4 rfl rfl) ?_
  refine s_pure rfl rfl (pv_eqb T4 rfl rfl rfl) ?_
  refine s_nil ?_
  refine AWp.cond (b := true) rfl (fun _ => ?_) (fun h => by cases h)
  refine AWp.seq ?_
  refine AWp.drawq E_ok.ok (ord := [0, 1, 2, 3, 4, 5, 6, 7, 8, 9]) (by kernel_rfl) ?_
  first | refine q_pure rfl rfl rfl rfl (pv_fld T42 rfl rfl T4 (by decide) rfl) ?_ | refine q_pure rfl rfl rfl rfl (pv_fldi T42 rfl rfl T4 (by decide) rfl) ?_
  first | refine q_imm rfl rfl rfl rfl (rv_loadi rfl (part_sc T4 rfl rfl)) ?_ | refine q_read rfl rfl rfl rfl (rv_load rfl) hg0x2 (part_sc T4 rfl rfl) ?_ | refine q_read rfl rfl rfl rfl (rv_load rfl) hg0x1 (part_sc T4 rfl rfl) ?_ | refine q_read rfl rfl rfl rfl (rv_load rfl) hg0x0 (part_sc T4 rfl rfl) ?_
  refine q_pure rfl rfl rfl rfl (pv_mov rfl) ?_
  refine q_pure rfl rfl rfl rfl (pv_mov rfl) ?_
  refine q_callp rfl rfl rfl rfl rfl (hpl nl1 nl2 cap1 cap2) ?_
  rintro _ ⟨nl4, cap4, out, hc4, rfl, hol, hol2, hov⟩
  refine q_callp rfl rfl rfl rfl rfl (hbig nl4 cap4 out hc4 (by omega) hol2 (by rw [← PB.dig_val wd256 hol2, hov]; exact hab8)) ?_
  rintro _ ⟨b, ⟨nl3, cap3, rfl⟩, rfl⟩
  rw [hov]
  refine q_pure rfl rfl rfl rfl (pv_ext rfl rfl) ?_
  refine q_pure rfl rfl rfl rfl (pv_ext rfl rfl) ?_
  first | refine q_putG0 rfl rfl rfl rfl (by kernel_rfl) (ev_store T42 rfl rfl (by intro vs h; cases h) (hg0x2) rfl (by first | exact Nat.le_of_ble_eq_true rfl | (simp; omega)) rfl) ?_ | refine q_putG0 rfl rfl rfl rfl (by kernel_rfl) (ev_store T42 rfl rfl (by intro vs h; cases h) (hg0x1) rfl (by first | exact Nat.le_of_ble_eq_true rfl | (simp; omega)) rfl) ?_ | refine q_putG0 rfl rfl rfl rfl (by kernel_rfl) (ev_store T42 rfl rfl (by intro vs h; cases h) (hg0x0) rfl (by first | exact Nat.le_of_ble_eq_true rfl | (simp; omega)) rfl) ?_
  intro A5x8 hn5x8 hg5x8 hk5x8
  first | replace hg0x0 := hk5x8 _ _ (by omega) hg0x0 | skip
  first | replace hg0x1 := hk5x8 _ _ (by omega) hg0x1 | skip
  first | replace hg0x2 := hk5x8 _ _ (by omega) hg0x2 | skip
  refine q_pure rfl rfl rfl rfl (pv_asg rfl) ?_
  first | refine q_nil0 ?_ | refine q_nil ?_
  refine AWp.ret ?_
  exact leaf_ok (ret_ct rfl hg5x8 (part_agg T42 rfl rfl rfl) rfl) (by simp [noBlk, noBlks, noBlks_U, ty42, setRange, aCells, vU]) ⟨_, ⟨nl3, cap3, rfl⟩, rfl⟩
end Go.Am.Seat


namespace Go.Am.Seat
open Go Go.Am Go.Proofs
theorem mulR_ok (a b : Nat) (ra rb : AV) (ha : IsB a ra) (hb : IsB b rb) (ha64 : (PB.dig WD a).length ≤ 64) (hb64 : (PB.dig WD b).length ≤ 64) (ha8 : (PB.dig 256 a).length ≤ 100) (hb8 : (PB.dig 256 b).length ≤ 100) :
    PureR E.C 18 [ra, rb] (fun r => ∃ c, IsB (a * b) c ∧ r = .tuple [c, .int .i64 0]) := by
  have hra := bigRightR_ok _ ra ha (PB.trimZ_dig wd2 a) ha64
  have hrb := bigRightR_ok _ rb hb (PB.trimZ_dig wd2 b) hb64
  have hba := bytes_ok a ra ha (by omega)
  have hbb := bytes_ok b rb hb (by omega)
  have hbig := bigR_ok
  have hdig := digitR_ok
  have va := PB.val_dig wd256 a; have vb := PB.val_dig wd256 b
  have da := PB.dig_lt wd256 a; have db := PB.dig_lt wd256 b
  generalize PB.dig 256 a = l at *
  generalize PB.dig 256 b = m at *
  obtain ⟨nl, cap, rfl⟩ := ha
  obtain ⟨nl', cap', rfl⟩ := hb
  refine PureR.of_empty plain (by simp [vU, noBlks, noBlk, noBlks_U]) ?_
  refine ACall.of_body E_ok.ok Tryz.func18 rfl (by kernel_rfl) ?_
  have hn00 : AH.empty.next = 0 := rfl
  dsimp only [vU, vI] at hra hrb hba hbb hbig hdig ⊢
  generalize (PB.dig WD a) = la at *
  generalize (PB.dig WD b) = lb at *
  refine AWp.seq ?_
  refine AWp.region E_ok.ok ?_
  refine s_newG rfl rfl (nv_box rfl rfl) ?_
  intro A0x0 hn0x0 hg0x0 hk0x0
  refine s_newG rfl rfl (nv_box rfl rfl) ?_
  intro A0x1 hn0x1 hg0x1 hk0x1
  replace hg0x0 := hk0x1 _ _ (by omega) hg0x0
  refine s_newG rfl rfl (nv_alloc T42 rfl) ?_
  intro A0x2 hn0x2 hg0x2 hk0x2
  replace hg0x0 := hk0x2 _ _ (by omega) hg0x0
  replace hg0x1 := hk0x2 _ _ (by omega) hg0x1
  refine s_pure rfl rfl (pv_asg rfl) ?_
  refine s_nil ?_
  refine AWp.seq ?_
  refine AWp.seq ?_
  refine AWp.region E_ok.ok ?_
  first | refine s_imm rfl rfl (rv_loadi rfl (part_agg T42 rfl rfl rfl)) ?_ | refine s_read rfl rfl (rv_load rfl) hg0x2 (part_agg T42 rfl rfl rfl) ?_ | refine s_read rfl rfl (rv_load rfl) hg0x1 (part_agg T42 rfl rfl rfl) ?_ | refine s_read rfl rfl (rv_load rfl) hg0x0 (part_agg T42 rfl rfl rfl) ?_
  refine s_callp rfl rfl rfl hra ?_
  rintro _ rfl
  refine s_pure rfl rfl (pv_un rfl rfl) ?_
  refine s_pure rfl rfl (pv_mov rfl) ?_
  first | refine s_imm rfl rfl (rv_loadi rfl (part_agg T42 rfl rfl rfl)) ?_ | refine s_read rfl rfl (rv_load rfl) hg0x2 (part_agg T42 rfl rfl rfl) ?_ | refine s_read rfl rfl (rv_load rfl) hg0x1 (part_agg T42 rfl rfl rfl) ?_ | refine s_read rfl rfl (rv_load rfl) hg0x0 (part_agg T42 rfl rfl rfl) ?_
  refine s_callp rfl rfl rfl hrb ?_
  rintro _ rfl
  refine s_pure rfl rfl (pv_un rfl rfl) ?_
  first | refine s_pure rfl rfl (pv_pickT rfl rfl) ?_ | refine s_pure rfl rfl (pv_pickF rfl rfl) ?_
  refine s_nil ?_
  refine AWp.cond (b := false) rfl (fun h => by cases h) (fun _ => ?_)
  refine AWp.skip ?_
  refine AWp.seq ?_
  refine AWp.drawq E_ok.ok (ord := [0, 2, 1, 3, 4, 5]) (by kernel_rfl) ?_
  first | refine q_imm rfl rfl rfl rfl (rv_loadi rfl (part_agg T42 rfl rfl rfl)) ?_ | refine q_read rfl rfl rfl rfl (rv_load rfl) hg0x2 (part_agg T42 rfl rfl rfl) ?_ | refine q_read rfl rfl rfl rfl (rv_load rfl) hg0x1 (part_agg T42 rfl rfl rfl) ?_ | refine q_read rfl rfl rfl rfl (rv_load rfl) hg0x0 (part_agg T42 rfl rfl rfl) ?_
  first | refine q_imm rfl rfl rfl rfl (rv_loadi rfl (part_agg T42 rfl rfl rfl)) ?_ | refine q_read rfl rfl rfl rfl (rv_load rfl) hg0x2 (part_agg T42 rfl rfl rfl) ?_ | refine q_read rfl rfl rfl rfl (rv_load rfl) hg0x1 (part_agg T42 rfl rfl rfl) ?_ | refine q_read rfl rfl rfl rfl (rv_load rfl) hg0x0 (part_agg T42 rfl rfl rfl) ?_
  refine q_callp rfl rfl rfl rfl rfl hba ?_
  rintro _ ⟨nl1, cap1, hc1, rfl⟩
  refine q_callp rfl rfl rfl rfl rfl hbb ?_
  rintro _ ⟨nl2, cap2, hc2, rfl⟩
  refine q_pure rfl rfl rfl rfl (pv_asg rfl) ?_
  refine q_pure rfl rfl rfl rfl (pv_asg rfl) ?_
  first | refine q_nil0 ?_ | refine q_nil ?_
  refine AWp.seq ?_
  refine AWp.region E_ok.ok ?_
  refine s_pure rfl rfl (pv_mov rfl) ?_
  first | refine s_pure rfl rfl (pv_len T29 rfl rfl) ?_ | refine s_pure rfl rfl (pv_len_sl T29 rfl rfl) ?_
  refine s_pure rfl rfl (pv_mov rfl) ?_
  first | refine s_pure rfl rfl (pv_len T29 rfl rfl) ?_ | refine s_pure rfl rfl (pv_len_sl T29 rfl rfl) ?_
  refine s_pure rfl rfl (pv_add rfl rfl (by omega) (by omega)) ?_
  refine s_pure rfl rfl (pv_add rfl rfl (by omega) (by omega)) ?_
  have hN : (l.length : Int) + m.length + 1 = (l.length + m.length + 1 : Nat) := by omega
  refine s_newG rfl rfl (nv_make (n := ((l.length + m.length + 1 : Nat) : Int)) (m := ((l.length + m.length + 1 : Nat) : Int)) T29 rfl T3 (int_eq (by omega)) (int_eq (by omega)) (by omega) (by omega) (by omega) (by show (8 : Int) * (l.length + m.length + 1 : Nat) ≤ 281474976710656; omega) rfl rfl) ?_
  intro A4x6 hn4x6 hg4x6 hk4x6
  replace hg0x0 := hk4x6 _ _ (by omega) hg0x0
  replace hg0x1 := hk4x6 _ _ (by omega) hg0x1
  replace hg0x2 := hk4x6 _ _ (by omega) hg0x2
  refine s_pure rfl rfl (pv_asg rfl) ?_
  refine s_nil ?_
  refine AWp.seq ?_
  refine AWp.seq ?_
  refine AWp.region E_ok.ok ?_
  refine s_pure rfl rfl (pv_asg rfl) ?_
  refine s_nil ?_
  refine AWp.block ?_
  have q1 : A0x0.next = 1 := by omega
  have q2 : A0x1.next = 2 := by omega
  have q3 : A0x2.next = 3 := by omega
  rw [hn00] at hg0x0
  rw [q1] at hg0x1
  rw [q2] at hg0x2
  rw [q3] at hg4x6
  have hz : reps ty3.zero ((l.length + m.length + 1 : Nat) : Int).toNat = (List.replicate (l.length + m.length + 1) 0).map encI := by
    rw [show ((l.length + m.length + 1 : Nat) : Int).toNat = l.length + m.length + 1 from rfl]
    show reps [AV.int .i64 0] _ = _
    rw [reps_one, List.map_replicate]; rfl
  rw [hz] at hg4x6
  refine AWp.loop (σ := {s : Nat × List Nat × AH // s.2.2.get 0 = some (.cells [.bool false, .vec nl la.length cap (la.map encU)]) ∧ s.2.2.get 1 = some (.cells [.bool false, .vec nl' lb.length cap' (lb.map encU)]) ∧ s.2.2.get 2 = some (.cells ty42.zero) ∧ s.2.2.get 3 = some (.cells (s.2.1.map encI)) ∧
      3 < s.2.2.next ∧ s.1 ≤ l.length ∧ s.2.1.length = l.length + m.length + 1 ∧ (∀ d ∈ s.2.1, d < 256) ∧ PB.val 256 s.2.1 = PB.val 256 (l.take s.1) * PB.val 256 m})
    (fun s => frL 84 [(2, .ptr 0 0), (3, .ptr 1 0), (4, .ptr 2 0), (6, .vec nl1 l.length cap1 (l.map encI)), (7, .vec nl2 m.length cap2 (m.map encI)), (8, .slice 3 0 (l.length + m.length + 1) (some (l.length + m.length + 1)) 1), (9, .int .i64 s.1.1)]) (fun s => s.1.2.2) (fun s => l.length - s.1.1)
    ⟨(0, List.replicate (l.length + m.length + 1) 0, A4x6), hg0x0, hg0x1, hg0x2, hg4x6, by dsimp only; omega, Nat.zero_le _, by simp, by intro d hd; rw [List.eq_of_mem_replicate hd]; decide, by dsimp only; rw [PB.val_zeros]; simp [PB.val]⟩
    (Weak.frL rfl ⟨(by show some (AV.ptr AH.empty.next 0) = _; rw [hn00]), (by show some (AV.ptr A0x0.next 0) = _; rw [q1]), (by show some (AV.ptr A0x1.next 0) = _; rw [q2]), rfl, rfl, (by show some (AV.slice A0x2.next 0 _ _ _) = _; rw [q3]; rfl), rfl, trivial⟩) ?_
  clear hg0x0 hg0x1 hg0x2 hg4x6 hk0x0 hk0x1 hk0x2 hk4x6 hn0x0 hn0x1 hn0x2 hn4x6 q1 q2 q3 hz
  rintro ⟨⟨i, out, A⟩, h2, h3, h4, h8, hn3, hi, hol, hod, hov⟩
  dsimp only at h2 h3 h4 h8 hn3 hi hol hod hov ⊢
  refine AWp.seq ?_
  refine AWp.seq ?_
  refine AWp.region E_ok.ok ?_
  refine s_pure rfl rfl (pv_mov rfl) ?_
  refine s_pure rfl rfl (pv_mov rfl) ?_
  first | refine s_pure rfl rfl (pv_len T29 rfl rfl) ?_ | refine s_pure rfl rfl (pv_len_sl T29 rfl rfl) ?_
  refine s_splitP rfl rfl (pv_int rfl rfl rfl) decide_eq_true_iff ?_ ?_
  · intro h6x3
    obtain ⟨x, hx⟩ := get_some (show i < l.length by omega)
    have hx8 := da x (List.mem_of_getElem? hx)
    have hxx : (i : Int) = i := rfl
    refine s_nil ?_
    refine AWp.cond (b := true) rfl (fun _ => ?_) (fun h => by cases h)
    refine AWp.skip ?_
    refine AWp.seq ?_
    refine AWp.block ?_
    refine AWp.seq ?_
    refine AWp.region E_ok.ok ?_
    refine s_pure rfl rfl (pv_asg rfl) ?_
    refine s_nil ?_
    refine AWp.seq ?_
    refine AWp.region E_ok.ok ?_
    refine s_pure rfl rfl (pv_asg rfl) ?_
    refine s_nil ?_
    refine AWp.block ?_
    refine AWp.loop (σ := {s : Nat × Nat × List Nat × AH // s.2.2.2.get 0 = some (.cells [.bool false, .vec nl la.length cap (la.map encU)]) ∧ s.2.2.2.get 1 = some (.cells [.bool false, .vec nl' lb.length cap' (lb.map encU)]) ∧ s.2.2.2.get 2 = some (.cells ty42.zero) ∧ s.2.2.2.get 3 = some (.cells (s.2.2.1.map encI)) ∧
        3 < s.2.2.2.next ∧ s.1 ≤ m.length + 1 ∧ s.2.1 < 256 ∧ s.2.2.1.length = l.length + m.length + 1 ∧ (∀ d ∈ s.2.2.1, d < 256) ∧ PB.val 256 s.2.2.1 + 256 ^ (i + s.1) * s.2.1 = PB.val 256 (l.take i) * PB.val 256 m + 256 ^ i * x * PB.val 256 (m.take s.1)})
      (fun s => frL 84 [(2, .ptr 0 0), (3, .ptr 1 0), (4, .ptr 2 0), (6, .vec nl1 l.length cap1 (l.map encI)), (7, .vec nl2 m.length cap2 (m.map encI)), (8, .slice 3 0 (l.length + m.length + 1) (some (l.length + m.length + 1)) 1), (9, .int .i64 i), (10, .int .i64 (s.1.2.1 : Nat)), (11, .int .i64 s.1.1)]) (fun s => s.1.2.2.2) (fun s => m.length + 2 - s.1.1)
      ⟨(0, 0, out, A), h2, h3, h4, h8, hn3, Nat.zero_le _, show 0 < 256 by decide, hol, hod, by simp [PB.val, hov]⟩ (Weak.frL rfl ⟨rfl, rfl, rfl, rfl, rfl, rfl, rfl, rfl, rfl, trivial⟩) ?_
    clear h2 h3 h4 h8 hn3 hol hod hov
    rintro ⟨⟨k, c, out1, A1⟩, h2, h3, h4, h8, hn3, hk, hc, hol, hod, hov⟩
    dsimp only at h2 h3 h4 h8 hn3 hk hc hol hod hov ⊢
    refine AWp.seq ?_
    refine AWp.seq ?_
    refine AWp.region E_ok.ok ?_
    refine s_pure rfl rfl (pv_mov rfl) ?_
    refine s_pure rfl rfl (pv_mov rfl) ?_
    first | refine s_pure rfl rfl (pv_len T29 rfl rfl) ?_ | refine s_pure rfl rfl (pv_len_sl T29 rfl rfl) ?_
    refine s_splitP rfl rfl (pv_int rfl rfl rfl) decide_eq_true_iff ?_ ?_
    · intro h10x3
      refine s_pure rfl rfl (pv_mov rfl) ?_
      refine s_skip rfl rfl ?_
      refine s_skip rfl rfl ?_
      first | refine s_pure rfl rfl (pv_pickT rfl rfl) ?_ | refine s_pure rfl rfl (pv_pickF rfl rfl) ?_
      refine s_nil ?_
      refine AWp.cond (b := true) rfl (fun _ => ?_) (fun h => by cases h)
      refine AWp.skip ?_
      refine AWp.seq ?_
      refine AWp.block ?_
      refine AWp.seq ?_
      refine AWp.drawq E_ok.ok (ord := [0, 1, 2, 3, 4, 5, 6, 7, 8, 9, 10, 11, 15, 12, 13, 14, 16, 17]) (by kernel_rfl) ?_
      have hkm : k ≤ m.length := by
        rcases Nat.lt_or_ge m.length k with h | h
        · have := PB.mul_bound da db hx8 hi h hov
          omega
        · exact h
      obtain ⟨o, ho⟩ := get_some (show i + k < out1.length by omega)
      have ho8 := hod o (List.mem_of_getElem? ho)
      have hoo : out1.getD (i + k) 0 = o := by rw [List.getD_eq_getElem?_getD, ho]; rfl
      have hy8 := PB.getD_lt (show 0 < 256 by decide) db k
      have hxy : x * m.getD k 0 ≤ 255 * 255 := Nat.mul_le_mul (by omega) (by omega)
      have hstep := PB.mul_step (l := l) (m := m) (out := out1) (i := i) (k := k) (x := x) (y := m.getD k 0) (o := o) (c := c) (s := o + x * m.getD k 0 + c) rfl hoo (by omega) rfl hov
      have hcell : (out1.map encI)[0 + ((i : Int) + k).toNat * ty3.size]? = some (.int .i64 (o : Int)) := by
        rw [show 0 + ((i : Int) + k).toNat * ty3.size = i + k by show 0 + ((i : Int) + k).toNat * 1 = _; omega, List.getElem?_map, ho]; rfl
      refine q_pure rfl rfl rfl rfl (pv_mov rfl) ?_
      refine q_pure rfl rfl rfl rfl (pv_mov rfl) ?_
      refine q_pure rfl rfl rfl rfl (pv_mov rfl) ?_
      refine q_pure rfl rfl rfl rfl (pv_add rfl rfl (by omega) (by omega)) ?_
      first | refine q_pure rfl rfl rfl rfl (pv_idx T29 rfl T3 rfl rfl (by omega) (by omega) (rfl)) ?_ | refine q_pure rfl rfl rfl rfl (pv_idx_sl T29 rfl T3 rfl rfl (by omega) (by omega)) ?_
      refine q_read rfl rfl rfl rfl (rv_load rfl) h8 (part_sc T3 rfl hcell) ?_
      refine q_pure rfl rfl rfl rfl (pv_mov rfl) ?_
      refine q_pure rfl rfl rfl rfl (pv_mov rfl) ?_
      first | refine q_pure rfl rfl rfl rfl (pv_idx T29 rfl T3 rfl rfl (by omega) (by omega) (drop_map hxx hx)) ?_ | refine q_pure rfl rfl rfl rfl (pv_idx_sl T29 rfl T3 rfl rfl (by omega) (by omega)) ?_
      first | refine q_imm rfl rfl rfl rfl (rv_loadi rfl (part_sc T3 rfl rfl)) ?_ | refine q_read rfl rfl rfl rfl (rv_load rfl) h8 (part_sc T3 rfl rfl) ?_
      refine q_pure rfl rfl rfl rfl (pv_mov rfl) ?_
      refine q_pure rfl rfl rfl rfl (pv_mov rfl) ?_
      refine q_pure rfl rfl rfl rfl (pv_mov rfl) ?_
      refine q_callp rfl rfl rfl rfl rfl (hdig nl2 cap2 m k) ?_
      rintro _ rfl
      generalize hyy : m.getD k 0 = y at hy8 hxy hstep ⊢
      have hxyi : (x : Int) * (y : Int) = ((x * y : Nat) : Int) := by simp
      refine q_pure rfl rfl rfl rfl (pv_mul rfl rfl (by omega) (by omega)) ?_
      refine q_pure rfl rfl rfl rfl (pv_add rfl rfl (by omega) (by omega)) ?_
      refine q_pure rfl rfl rfl rfl (pv_add rfl rfl (by omega) (by omega)) ?_
      refine q_pure rfl rfl rfl rfl (pv_asg rfl) ?_
      first | refine q_nil0 ?_ | refine q_nil ?_
      refine AWp.seq ?_
      refine AWp.region E_ok.ok ?_
      refine s_pure rfl rfl (pv_mov rfl) ?_
      refine s_pure rfl rfl (pv_mov rfl) ?_
      refine s_pure rfl rfl (pv_mov rfl) ?_
      refine s_pure rfl rfl (pv_add rfl rfl (by omega) (by omega)) ?_
      refine s_pure rfl rfl (pv_mov rfl) ?_
      refine s_pure rfl rfl (pv_rem rfl rfl (by omega) (by omega)) ?_
      first | refine s_pure rfl rfl (pv_idx T29 rfl T3 rfl rfl (by omega) (by omega) (rfl)) ?_ | refine s_pure rfl rfl (pv_idx_sl T29 rfl T3 rfl rfl (by omega) (by omega)) ?_
      refine s_putG rfl rfl (ev_store T3 rfl rfl (by intro vs h; cases h) h8 rfl (by rw [List.length_map]; show 0 + ((i : Int) + k).toNat * 1 + 1 ≤ _; omega) rfl) ?_
      intro A2 hn2 hg2 hk2
      have hg2' : A2.get 3 = some (.cells ((out1.set (i + k) ((o + x * y + c) % 256)).map encI)) := by
        rw [hg2]
        congr 2
        rw [show 0 + ((i : Int) + k).toNat * ty3.size = i + k by show 0 + ((i : Int) + k).toNat * 1 = _; omega]
        show setRange _ _ [AV.int .i64 (((o : Int) + x * y + c) % 256)] = _
        rw [setRange_one _ _ _ (by rw [List.length_map]; omega), List.map_set]
        congr 1
      replace h2 := hk2 _ _ (by omega) h2
      replace h3 := hk2 _ _ (by omega) h3
      replace h4 := hk2 _ _ (by omega) h4
      refine s_nil ?_
      refine AWp.region E_ok.ok ?_
      refine s_pure rfl rfl (pv_mov rfl) ?_
      refine s_pure rfl rfl (pv_quok (M := 9223372036854775807) rfl rfl rfl (by omega) (by omega) (by omega)) ?_
      refine s_pure rfl rfl (pv_asg rfl) ?_
      refine s_nil ?_
      refine AWp.region E_ok.ok ?_
      refine s_pure rfl rfl (pv_mov rfl) ?_
      refine s_pure rfl rfl (pv_add rfl rfl (by omega) (by omega)) ?_
      refine s_pure rfl rfl (pv_asg rfl) ?_
      refine s_nil ?_
      refine ⟨⟨(k + 1, (o + x * y + c) / 256, out1.set (i + k) ((o + x * y + c) % 256), A2), h2, h3, h4, hg2', by dsimp only; omega, by dsimp only; omega, by dsimp only; omega, by dsimp only; rw [List.length_set]; exact hol, fun d hd => ?_, hstep⟩, by dsimp only; omega, Weak.frL rfl ⟨rfl, rfl, rfl, rfl, rfl, rfl, rfl, int_eq (by dsimp only; rw [hxyi]; rfl), rfl, trivial⟩⟩
      rcases List.mem_or_eq_of_mem_set hd with h | rfl
      · exact hod d h
      · exact Nat.mod_lt _ (by decide)
    · intro h10x3
      refine s_pure rfl rfl (pv_mov rfl) ?_
      refine s_pure rfl rfl (pv_mov rfl) ?_
      refine s_splitP rfl rfl (pv_int rfl rfl rfl) decide_eq_true_iff ?_ ?_
      · intro h10x6
        first | refine s_pure rfl rfl (pv_pickT rfl rfl) ?_ | refine s_pure rfl rfl (pv_pickF rfl rfl) ?_
        refine s_nil ?_
        refine AWp.cond (b := true) rfl (fun _ => ?_) (fun h => by cases h)
        refine AWp.skip ?_
        refine AWp.seq ?_
        refine AWp.block ?_
        refine AWp.seq ?_
        refine AWp.drawq E_ok.ok (ord := [0, 1, 2, 3, 4, 5, 6, 7, 8, 9, 10, 11, 15, 12, 13, 14, 16, 17]) (by kernel_rfl) ?_
        have hkm : k ≤ m.length := by
          rcases Nat.lt_or_ge m.length k with h | h
          · have := PB.mul_bound da db hx8 hi h hov
            omega
          · exact h
        obtain ⟨o, ho⟩ := get_some (show i + k < out1.length by omega)
        have ho8 := hod o (List.mem_of_getElem? ho)
        have hoo : out1.getD (i + k) 0 = o := by rw [List.getD_eq_getElem?_getD, ho]; rfl
        have hy8 := PB.getD_lt (show 0 < 256 by decide) db k
        have hxy : x * m.getD k 0 ≤ 255 * 255 := Nat.mul_le_mul (by omega) (by omega)
        have hstep := PB.mul_step (l := l) (m := m) (out := out1) (i := i) (k := k) (x := x) (y := m.getD k 0) (o := o) (c := c) (s := o + x * m.getD k 0 + c) rfl hoo (by omega) rfl hov
        have hcell : (out1.map encI)[0 + ((i : Int) + k).toNat * ty3.size]? = some (.int .i64 (o : Int)) := by
          rw [show 0 + ((i : Int) + k).toNat * ty3.size = i + k by show 0 + ((i : Int) + k).toNat * 1 = _; omega, List.getElem?_map, ho]; rfl
        refine q_pure rfl rfl rfl rfl (pv_mov rfl) ?_
        refine q_pure rfl rfl rfl rfl (pv_mov rfl) ?_
        refine q_pure rfl rfl rfl rfl (pv_mov rfl) ?_
        refine q_pure rfl rfl rfl rfl (pv_add rfl rfl (by omega) (by omega)) ?_
        first | refine q_pure rfl rfl rfl rfl (pv_idx T29 rfl T3 rfl rfl (by omega) (by omega) (rfl)) ?_ | refine q_pure rfl rfl rfl rfl (pv_idx_sl T29 rfl T3 rfl rfl (by omega) (by omega)) ?_
        refine q_read rfl rfl rfl rfl (rv_load rfl) h8 (part_sc T3 rfl hcell) ?_
        refine q_pure rfl rfl rfl rfl (pv_mov rfl) ?_
        refine q_pure rfl rfl rfl rfl (pv_mov rfl) ?_
        first | refine q_pure rfl rfl rfl rfl (pv_idx T29 rfl T3 rfl rfl (by omega) (by omega) (drop_map hxx hx)) ?_ | refine q_pure rfl rfl rfl rfl (pv_idx_sl T29 rfl T3 rfl rfl (by omega) (by omega)) ?_
        first | refine q_imm rfl rfl rfl rfl (rv_loadi rfl (part_sc T3 rfl rfl)) ?_ | refine q_read rfl rfl rfl rfl (rv_load rfl) h8 (part_sc T3 rfl rfl) ?_
        refine q_pure rfl rfl rfl rfl (pv_mov rfl) ?_
        refine q_pure rfl rfl rfl rfl (pv_mov rfl) ?_
        refine q_pure rfl rfl rfl rfl (pv_mov rfl) ?_
        refine q_callp rfl rfl rfl rfl rfl (hdig nl2 cap2 m k) ?_
        rintro _ rfl
        generalize hyy : m.getD k 0 = y at hy8 hxy hstep ⊢
        have hxyi : (x : Int) * (y : Int) = ((x * y : Nat) : Int) := by simp
        refine q_pure rfl rfl rfl rfl (pv_mul rfl rfl (by omega) (by omega)) ?_
        refine q_pure rfl rfl rfl rfl (pv_add rfl rfl (by omega) (by omega)) ?_
        refine q_pure rfl rfl rfl rfl (pv_add rfl rfl (by omega) (by omega)) ?_
        refine q_pure rfl rfl rfl rfl (pv_asg rfl) ?_
        first | refine q_nil0 ?_ | refine q_nil ?_
        refine AWp.seq ?_
        refine AWp.region E_ok.ok ?_
        refine s_pure rfl rfl (pv_mov rfl) ?_
        refine s_pure rfl rfl (pv_mov rfl) ?_
        refine s_pure rfl rfl (pv_mov rfl) ?_
        refine s_pure rfl rfl (pv_add rfl rfl (by omega) (by omega)) ?_
        refine s_pure rfl rfl (pv_mov rfl) ?_
        refine s_pure rfl rfl (pv_rem rfl rfl (by omega) (by omega)) ?_
        first | refine s_pure rfl rfl (pv_idx T29 rfl T3 rfl rfl (by omega) (by omega) (rfl)) ?_ | refine s_pure rfl rfl (pv_idx_sl T29 rfl T3 rfl rfl (by omega) (by omega)) ?_
        refine s_putG rfl rfl (ev_store T3 rfl rfl (by intro vs h; cases h) h8 rfl (by rw [List.length_map]; show 0 + ((i : Int) + k).toNat * 1 + 1 ≤ _; omega) rfl) ?_
        intro A2 hn2 hg2 hk2
        have hg2' : A2.get 3 = some (.cells ((out1.set (i + k) ((o + x * y + c) % 256)).map encI)) := by
          rw [hg2]
          congr 2
          rw [show 0 + ((i : Int) + k).toNat * ty3.size = i + k by show 0 + ((i : Int) + k).toNat * 1 = _; omega]
          show setRange _ _ [AV.int .i64 (((o : Int) + x * y + c) % 256)] = _
          rw [setRange_one _ _ _ (by rw [List.length_map]; omega), List.map_set]
          congr 1
        replace h2 := hk2 _ _ (by omega) h2
        replace h3 := hk2 _ _ (by omega) h3
        replace h4 := hk2 _ _ (by omega) h4
        refine s_nil ?_
        refine AWp.region E_ok.ok ?_
        refine s_pure rfl rfl (pv_mov rfl) ?_
        refine s_pure rfl rfl (pv_quok (M := 9223372036854775807) rfl rfl rfl (by omega) (by omega) (by omega)) ?_
        refine s_pure rfl rfl (pv_asg rfl) ?_
        refine s_nil ?_
        refine AWp.region E_ok.ok ?_
        refine s_pure rfl rfl (pv_mov rfl) ?_
        refine s_pure rfl rfl (pv_add rfl rfl (by omega) (by omega)) ?_
        refine s_pure rfl rfl (pv_asg rfl) ?_
        refine s_nil ?_
        refine ⟨⟨(k + 1, (o + x * y + c) / 256, out1.set (i + k) ((o + x * y + c) % 256), A2), h2, h3, h4, hg2', by dsimp only; omega, by dsimp only; omega, by dsimp only; omega, by dsimp only; rw [List.length_set]; exact hol, fun d hd => ?_, hstep⟩, by dsimp only; omega, Weak.frL rfl ⟨rfl, rfl, rfl, rfl, rfl, rfl, rfl, int_eq (by dsimp only; rw [hxyi]; rfl), rfl, trivial⟩⟩
        rcases List.mem_or_eq_of_mem_set hd with h | rfl
        · exact hod d h
        · exact Nat.mod_lt _ (by decide)
      · intro h10x6
        first | refine s_pure rfl rfl (pv_pickT rfl rfl) ?_ | refine s_pure rfl rfl (pv_pickF rfl rfl) ?_
        refine s_nil ?_
        refine AWp.cond (b := false) rfl (fun h => by cases h) (fun _ => ?_)
        refine AWp.exit ?_
        refine AWp.region E_ok.ok ?_
        refine s_pure rfl rfl (pv_mov rfl) ?_
        refine s_pure rfl rfl (pv_add rfl rfl (by omega) (by omega)) ?_
        refine s_pure rfl rfl (pv_asg rfl) ?_
        refine s_nil ?_
        have hc0 : c = 0 := by omega
        have hov' : PB.val 256 out1 = PB.val 256 (l.take (i + 1)) * PB.val 256 m := by
          rw [hc0, Nat.mul_zero, Nat.add_zero, show m.take k = m from List.take_of_length_le (by omega)] at hov
          rw [hov, PB.val_take_succ, show l.getD i 0 = x by rw [List.getD_eq_getElem?_getD, hx] <;> rfl, Nat.add_mul]
        exact ⟨⟨(i + 1, out1, A1), h2, h3, h4, h8, hn3, by dsimp only; omega, hol, hod, hov'⟩, by dsimp only; omega, Weak.frL rfl ⟨rfl, rfl, rfl, rfl, rfl, rfl, rfl, trivial⟩⟩
  · intro h6x3
    refine s_nil ?_
    refine AWp.cond (b := false) rfl (fun h => by cases h) (fun _ => ?_)
    refine AWp.exit ?_
    have hli : l.take i = l := List.take_of_length_le (by omega)
    rw [hli, va, vb] at hov
    have hbg := hbig false (some (l.length + m.length + 1)) out (by rw [hol]; exact Nat.le_refl _) (by omega) hod (Nat.le_trans (PB.trimZ_len _) (by omega))
    rw [hov, hol] at hbg
    refine AWp.seq ?_
    refine AWp.region E_ok.ok ?_
    first | refine s_pure rfl rfl (pv_fld T42 rfl rfl T4 (by decide) rfl) ?_ | refine s_pure rfl rfl (pv_fldi T42 rfl rfl T4 (by decide) rfl) ?_
    first | refine s_imm rfl rfl (rv_loadi rfl (part_sc T4 rfl rfl)) ?_ | refine s_read rfl rfl (rv_load rfl) h8 (part_sc T4 rfl rfl) ?_ | refine s_read rfl rfl (rv_load rfl) h4 (part_sc T4 rfl rfl) ?_ | refine s_read rfl rfl (rv_load rfl) h3 (part_sc T4 rfl rfl) ?_ | refine s_read rfl rfl (rv_load rfl) h2 (part_sc T4 rfl rfl) ?_
    first | refine s_pure rfl rfl (pv_fld T42 rfl rfl T4 (by decide) rfl) ?_ | refine s_pure rfl rfl (pv_fldi T42 rfl rfl T4 (by decide) rfl) ?_
    first | refine s_imm rfl rfl (rv_loadi rfl (part_sc T4 rfl rfl)) ?_ | refine s_read rfl rfl (rv_load rfl) h8 (part_sc T4 rfl rfl) ?_ | refine s_read rfl rfl (rv_load rfl) h4 (part_sc T4 rfl rfl) ?_ | refine s_read rfl rfl (rv_load rfl) h3 (part_sc T4 rfl rfl) ?_ | refine s_read rfl rfl (rv_load rfl) h2 (part_sc T4 rfl rfl) ?_
    refine s_pure rfl rfl (pv_neb T4 rfl rfl rfl) ?_
    refine s_pure rfl rfl (pv_mov rfl) ?_
    refine s_call rfl rfl rfl (PureR.eat plain hbg h8 (noBlks_I _) ⟨_, _, rfl, .inl ⟨rfl, rfl⟩, _, _, rfl, .inr ⟨_, _, 1, rfl, rfl, by rw [List.length_map]; omega⟩, rfl⟩) ?_
    rintro _ A15 ⟨hA15, b, ⟨nl3, cap3, rfl⟩, rfl⟩
    have hn15 : A15.next = A.next := by rw [hA15]; rfl
    replace h4 : A15.get 2 = some (.cells ty42.zero) := by rw [hA15]; exact AH.keep_kill (by omega) h4
    clear h2 h3 h8
    refine s_pure rfl rfl (pv_ext rfl rfl) ?_
    refine s_pure rfl rfl (pv_ext rfl rfl) ?_
    first | refine s_putG rfl rfl (ev_store T42 rfl rfl (by intro vs h; cases h) (h8) rfl (by first | exact Nat.le_of_ble_eq_true rfl | (simp; omega)) rfl) ?_ | refine s_putG rfl rfl (ev_store T42 rfl rfl (by intro vs h; cases h) (h4) rfl (by first | exact Nat.le_of_ble_eq_true rfl | (simp; omega)) rfl) ?_ | refine s_putG rfl rfl (ev_store T42 rfl rfl (by intro vs h; cases h) (h3) rfl (by first | exact Nat.le_of_ble_eq_true rfl | (simp; omega)) rfl) ?_ | refine s_putG rfl rfl (ev_store T42 rfl rfl (by intro vs h; cases h) (h2) rfl (by first | exact Nat.le_of_ble_eq_true rfl | (simp; omega)) rfl) ?_
    intro A15x9 hn15x9 hg15x9 hk15x9
    first | replace h2 := hk15x9 _ _ (by omega) h2 | skip
    first | replace h3 := hk15x9 _ _ (by omega) h3 | skip
    first | replace h4 := hk15x9 _ _ (by omega) h4 | skip
    first | replace h8 := hk15x9 _ _ (by omega) h8 | skip
    refine s_pure rfl rfl (pv_asg rfl) ?_
    refine s_nil ?_
    refine AWp.ret ?_
    exact leaf_ok (ret_ct rfl hg15x9 (part_agg T42 rfl rfl rfl) rfl) (by simp [noBlk, noBlks, noBlks_U, ty42, setRange, aCells, vU]) ⟨_, ⟨nl3, cap3, rfl⟩, rfl⟩
end Go.Am.Seat

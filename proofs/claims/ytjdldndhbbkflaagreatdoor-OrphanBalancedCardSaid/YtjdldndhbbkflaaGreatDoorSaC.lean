/- A part of the proof about cellularlaw49.OrphanBalanced: lemmas only; what they say is theirs alone and no condition of the claim. -/
import Derived.Test.YtjdldndhbbkflaaGreatDoorSaA
import Derived.KernelRfl
set_option autoImplicit false
set_option linter.unusedVariables false
set_option linter.unusedSimpArgs false
set_option maxRecDepth 100000
noncomputable section
namespace Go.Am.Seat
open Go Go.Am Go.Proofs
theorem hoodR_ok (s : Sl Pt) (hl : s.l.length ≤ 9223372036854775807) : PureR E.C 25 [s.av encPt] (fun r => r = .bool (tb (HoodOk s.l))) := by
  obtain ⟨nl, cap, l⟩ := s
  dsimp only [Sl.av] at hl ⊢
  refine PureR.of_empty plain (by simp [noBlks, noBlk, Sl.av, noBlks_flat (f := encPt) (fun _ => rfl)]) ?_
  refine ACall.of_body E_ok.ok Tryz.func25 rfl (by kernel_rfl) ?_
  refine AWp.seq ?_
  refine AWp.region E_ok.ok ?_
  refine s_pure rfl rfl (pv_asg rfl) ?_
  refine s_nil ?_
  refine AWp.seq ?_
  refine AWp.seq ?_
  refine AWp.region E_ok.ok ?_
  refine s_pure rfl rfl (pv_mov rfl) ?_
  first | refine s_pure rfl rfl (pv_len T22 rfl rfl) ?_ | refine s_pure rfl rfl (pv_len_sl T22 rfl rfl) ?_
  refine s_splitP rfl rfl (pv_int rfl rfl rfl) decide_eq_true_iff ?_ ?_
  · intro h1x2
    refine s_pure rfl rfl (pv_mov rfl) ?_
    refine s_skip rfl rfl ?_
    refine s_skip rfl rfl ?_
    refine s_skip rfl rfl ?_
    first | refine s_pure rfl rfl (pv_pickT rfl rfl) ?_ | refine s_pure rfl rfl (pv_pickF rfl rfl) ?_
    refine s_nil ?_
    refine AWp.cond (b := true) rfl (fun _ => ?_) (fun h => by cases h)
    refine AWp.seq ?_
    refine AWp.region E_ok.ok ?_
    refine s_pure rfl rfl (pv_asg rfl) ?_
    refine s_nil ?_
    refine AWp.ret ?_
    refine ⟨_, rfl, 1, _, rfl, ?_⟩
    show AV.bool false = _
    rw [tb_false]
    intro H
    first | (have := H.1; have := H.2.1; omega) | (have := H.2.2 k p hp; obtain ⟨⟨_, _, _, _⟩, h5⟩ := this; first | omega | (have := h5 q (by omega) hq; simp_all))
  · intro h1x2
    refine s_pure rfl rfl (pv_mov rfl) ?_
    refine s_pure rfl rfl (pv_mov rfl) ?_
    first | refine s_pure rfl rfl (pv_len T22 rfl rfl) ?_ | refine s_pure rfl rfl (pv_len_sl T22 rfl rfl) ?_
    refine s_splitP rfl rfl (pv_int rfl rfl rfl) decide_eq_true_iff ?_ ?_
    · intro h1x6
      first | refine s_pure rfl rfl (pv_pickT rfl rfl) ?_ | refine s_pure rfl rfl (pv_pickF rfl rfl) ?_
      refine s_nil ?_
      refine AWp.cond (b := true) rfl (fun _ => ?_) (fun h => by cases h)
      refine AWp.seq ?_
      refine AWp.region E_ok.ok ?_
      refine s_pure rfl rfl (pv_asg rfl) ?_
      refine s_nil ?_
      refine AWp.ret ?_
      refine ⟨_, rfl, 1, _, rfl, ?_⟩
      show AV.bool false = _
      rw [tb_false]
      intro H
      first | (have := H.1; have := H.2.1; omega) | (have := H.2.2 k p hp; obtain ⟨⟨_, _, _, _⟩, h5⟩ := this; first | omega | (have := h5 q (by omega) hq; simp_all))
    · intro h1x6
      first | refine s_pure rfl rfl (pv_pickT rfl rfl) ?_ | refine s_pure rfl rfl (pv_pickF rfl rfl) ?_
      refine s_nil ?_
      refine AWp.cond (b := false) rfl (fun h => by cases h) (fun _ => ?_)
      refine AWp.skip ?_
      refine AWp.seq ?_
      refine AWp.seq ?_
      refine AWp.region E_ok.ok ?_
      refine s_pure rfl rfl (pv_asg rfl) ?_
      refine s_nil ?_
      refine AWp.block ?_
      refine AWp.loop (σ := {s : Nat × AH // s.1 ≤ l.length ∧ HoodPre l s.1}) (fun s => frL 55 [(0, .vec nl l.length cap (l.flatMap encPt)), (3, .int .i64 s.1.1)]) (fun s => s.1.2) (fun s => l.length - s.1.1) ⟨(0, AH.empty), by simp, fun k p h => by simp at h⟩ (Weak.frL rfl ⟨rfl, rfl, trivial⟩) ?_
      rintro ⟨⟨k, A⟩, hk, hinv⟩
      dsimp only at hk hinv ⊢
      refine AWp.seq ?_
      refine AWp.seq ?_
      refine AWp.region E_ok.ok ?_
      refine s_pure rfl rfl (pv_mov rfl) ?_
      refine s_pure rfl rfl (pv_mov rfl) ?_
      first | refine s_pure rfl rfl (pv_len T22 rfl rfl) ?_ | refine s_pure rfl rfl (pv_len_sl T22 rfl rfl) ?_
      refine s_splitP rfl rfl (pv_int rfl rfl rfl) decide_eq_true_iff ?_ ?_
      · intro h4x3
        have hlt : k < l.length := by omega
        obtain ⟨p, hp⟩ := get_some hlt
        have hkk : (k : Int) = k := rfl
        refine s_nil ?_
        refine AWp.cond (b := true) rfl (fun _ => ?_) (fun h => by cases h)
        refine AWp.skip ?_
        refine AWp.seq ?_
        refine AWp.block ?_
        refine AWp.seq ?_
        refine AWp.region E_ok.ok ?_
        refine s_pure rfl rfl (pv_mov rfl) ?_
        refine s_pure rfl rfl (pv_mov rfl) ?_
        first | refine s_pure rfl rfl (pv_idx T22 rfl T53 rfl rfl (by omega) (by omega) (drop_encI encPt_len hkk hp)) ?_ | refine s_pure rfl rfl (pv_idx_sl T22 rfl T53 rfl rfl (by omega) (by omega)) ?_
        refine s_imm rfl rfl (rv_loadi rfl (part_agg T53 rfl rfl rfl)) ?_
        refine s_newG rfl rfl (nv_alloc T53 rfl) ?_
        intro A6x4 hn6x4 hg6x4 hk6x4
        first | refine s_putG rfl rfl (ev_store T53 rfl rfl (by intro vs h; cases h) (hg6x4) rfl (by first | exact Nat.le_of_ble_eq_true rfl | (simp; omega)) rfl) ?_
        intro A6x5 hn6x5 hg6x5 hk6x5
        first | replace hg6x4 := hk6x5 _ _ (by omega) hg6x4 | skip
        refine s_nil ?_
        refine AWp.seq ?_
        refine AWp.drawq E_ok.ok (ord := [0, 1, 2, 3, 4, 5, 6, 7, 8, 9, 10, 11, 12, 13, 14, 15, 16, 17, 18, 19, 20, 21, 22, 23, 24, 25, 26, 27, 28, 29, 30, 31]) (by kernel_rfl) ?_
        first | refine q_pure rfl rfl rfl rfl (pv_fld T53 rfl rfl T3 (by decide) rfl) ?_ | refine q_pure rfl rfl rfl rfl (pv_fldi T53 rfl rfl T3 (by decide) rfl) ?_
        first | refine q_imm rfl rfl rfl rfl (rv_loadi rfl (part_sc T3 rfl rfl)) ?_ | refine q_read rfl rfl rfl rfl (rv_load rfl) hg6x5 (part_sc T3 rfl rfl) ?_ | refine q_read rfl rfl rfl rfl (rv_load rfl) hg6x4 (part_sc T3 rfl rfl) ?_
        refine q_splitP rfl rfl rfl rfl (pv_int rfl rfl rfl) decide_eq_true_iff ?_ ?_
        · intro h7x2
          refine q_pure rfl rfl rfl rfl (pv_mov rfl) ?_
          refine q_skip rfl rfl rfl ?_
          refine q_skip rfl rfl rfl ?_
          refine q_skip rfl rfl rfl ?_
          first | refine q_pure rfl rfl rfl rfl (pv_pickT rfl rfl) ?_ | refine q_pure rfl rfl rfl rfl (pv_pickF rfl rfl) ?_
          refine q_pure rfl rfl rfl rfl (pv_mov rfl) ?_
          refine q_skip rfl rfl rfl ?_
          refine q_skip rfl rfl rfl ?_
          refine q_skip rfl rfl rfl ?_
          first | refine q_pure rfl rfl rfl rfl (pv_pickT rfl rfl) ?_ | refine q_pure rfl rfl rfl rfl (pv_pickF rfl rfl) ?_
          refine q_pure rfl rfl rfl rfl (pv_mov rfl) ?_
          refine q_skip rfl rfl rfl ?_
          refine q_skip rfl rfl rfl ?_
          refine q_skip rfl rfl rfl ?_
          first | refine q_pure rfl rfl rfl rfl (pv_pickT rfl rfl) ?_ | refine q_pure rfl rfl rfl rfl (pv_pickF rfl rfl) ?_
          refine q_pure rfl rfl rfl rfl (pv_mov rfl) ?_
          refine q_skip rfl rfl rfl ?_
          refine q_skip rfl rfl rfl ?_
          refine q_skip rfl rfl rfl ?_
          refine q_skip rfl rfl rfl ?_
          refine q_skip rfl rfl rfl ?_
          refine q_skip rfl rfl rfl ?_
          refine q_skip rfl rfl rfl ?_
          refine q_skip rfl rfl rfl ?_
          refine q_skip rfl rfl rfl ?_
          refine q_skip rfl rfl rfl ?_
          refine q_skip rfl rfl rfl ?_
          refine q_skip rfl rfl rfl ?_
          first | refine q_pure rfl rfl rfl rfl (pv_pickT rfl rfl) ?_ | refine q_pure rfl rfl rfl rfl (pv_pickF rfl rfl) ?_
          first | refine q_nil0 ?_ | refine q_nil ?_
          refine AWp.cond (b := true) rfl (fun _ => ?_) (fun h => by cases h)
          refine AWp.seq ?_
          refine AWp.region E_ok.ok ?_
          refine s_pure rfl rfl (pv_asg rfl) ?_
          refine s_nil ?_
          refine AWp.ret ?_
          refine ⟨_, rfl, 1, _, rfl, ?_⟩
          show AV.bool false = _
          rw [tb_false]
          intro H
          first | (have := H.1; have := H.2.1; omega) | (have := H.2.2 k p hp; obtain ⟨⟨_, _, _, _⟩, h5⟩ := this; first | omega | (have := h5 q (by omega) hq; simp_all))
        · intro h7x2
          refine q_pure rfl rfl rfl rfl (pv_mov rfl) ?_
          first | refine q_pure rfl rfl rfl rfl (pv_fld T53 rfl rfl T3 (by decide) rfl) ?_ | refine q_pure rfl rfl rfl rfl (pv_fldi T53 rfl rfl T3 (by decide) rfl) ?_
          first | refine q_imm rfl rfl rfl rfl (rv_loadi rfl (part_sc T3 rfl rfl)) ?_ | refine q_read rfl rfl rfl rfl (rv_load rfl) hg6x5 (part_sc T3 rfl rfl) ?_ | refine q_read rfl rfl rfl rfl (rv_load rfl) hg6x4 (part_sc T3 rfl rfl) ?_
          refine q_splitP rfl rfl rfl rfl (pv_int rfl rfl rfl) decide_eq_true_iff ?_ ?_
          · intro h7x6
            first | refine q_pure rfl rfl rfl rfl (pv_pickT rfl rfl) ?_ | refine q_pure rfl rfl rfl rfl (pv_pickF rfl rfl) ?_
            refine q_pure rfl rfl rfl rfl (pv_mov rfl) ?_
            refine q_skip rfl rfl rfl ?_
            refine q_skip rfl rfl rfl ?_
            refine q_skip rfl rfl rfl ?_
            first | refine q_pure rfl rfl rfl rfl (pv_pickT rfl rfl) ?_ | refine q_pure rfl rfl rfl rfl (pv_pickF rfl rfl) ?_
            refine q_pure rfl rfl rfl rfl (pv_mov rfl) ?_
            refine q_skip rfl rfl rfl ?_
            refine q_skip rfl rfl rfl ?_
            refine q_skip rfl rfl rfl ?_
            first | refine q_pure rfl rfl rfl rfl (pv_pickT rfl rfl) ?_ | refine q_pure rfl rfl rfl rfl (pv_pickF rfl rfl) ?_
            refine q_pure rfl rfl rfl rfl (pv_mov rfl) ?_
            refine q_skip rfl rfl rfl ?_
            refine q_skip rfl rfl rfl ?_
            refine q_skip rfl rfl rfl ?_
            refine q_skip rfl rfl rfl ?_
            refine q_skip rfl rfl rfl ?_
            refine q_skip rfl rfl rfl ?_
            refine q_skip rfl rfl rfl ?_
            refine q_skip rfl rfl rfl ?_
            refine q_skip rfl rfl rfl ?_
            refine q_skip rfl rfl rfl ?_
            refine q_skip rfl rfl rfl ?_
            refine q_skip rfl rfl rfl ?_
            first | refine q_pure rfl rfl rfl rfl (pv_pickT rfl rfl) ?_ | refine q_pure rfl rfl rfl rfl (pv_pickF rfl rfl) ?_
            first | refine q_nil0 ?_ | refine q_nil ?_
            refine AWp.cond (b := true) rfl (fun _ => ?_) (fun h => by cases h)
            refine AWp.seq ?_
            refine AWp.region E_ok.ok ?_
            refine s_pure rfl rfl (pv_asg rfl) ?_
            refine s_nil ?_
            refine AWp.ret ?_
            refine ⟨_, rfl, 1, _, rfl, ?_⟩
            show AV.bool false = _
            rw [tb_false]
            intro H
            first | (have := H.1; have := H.2.1; omega) | (have := H.2.2 k p hp; obtain ⟨⟨_, _, _, _⟩, h5⟩ := this; first | omega | (have := h5 q (by omega) hq; simp_all))
          · intro h7x6
            first | refine q_pure rfl rfl rfl rfl (pv_pickT rfl rfl) ?_ | refine q_pure rfl rfl rfl rfl (pv_pickF rfl rfl) ?_
            refine q_pure rfl rfl rfl rfl (pv_mov rfl) ?_
            first | refine q_pure rfl rfl rfl rfl (pv_fld T53 rfl rfl T3 (by decide) rfl) ?_ | refine q_pure rfl rfl rfl rfl (pv_fldi T53 rfl rfl T3 (by decide) rfl) ?_
            first | refine q_imm rfl rfl rfl rfl (rv_loadi rfl (part_sc T3 rfl rfl)) ?_ | refine q_read rfl rfl rfl rfl (rv_load rfl) hg6x5 (part_sc T3 rfl rfl) ?_ | refine q_read rfl rfl rfl rfl (rv_load rfl) hg6x4 (part_sc T3 rfl rfl) ?_
            refine q_splitP rfl rfl rfl rfl (pv_int rfl rfl rfl) decide_eq_true_iff ?_ ?_
            · intro h7x11
              first | refine q_pure rfl rfl rfl rfl (pv_pickT rfl rfl) ?_ | refine q_pure rfl rfl rfl rfl (pv_pickF rfl rfl) ?_
              refine q_pure rfl rfl rfl rfl (pv_mov rfl) ?_
              refine q_skip rfl rfl rfl ?_
              refine q_skip rfl rfl rfl ?_
              refine q_skip rfl rfl rfl ?_
              first | refine q_pure rfl rfl rfl rfl (pv_pickT rfl rfl) ?_ | refine q_pure rfl rfl rfl rfl (pv_pickF rfl rfl) ?_
              refine q_pure rfl rfl rfl rfl (pv_mov rfl) ?_
              refine q_skip rfl rfl rfl ?_
              refine q_skip rfl rfl rfl ?_
              refine q_skip rfl rfl rfl ?_
              refine q_skip rfl rfl rfl ?_
              refine q_skip rfl rfl rfl ?_
              refine q_skip rfl rfl rfl ?_
              refine q_skip rfl rfl rfl ?_
              refine q_skip rfl rfl rfl ?_
              refine q_skip rfl rfl rfl ?_
              refine q_skip rfl rfl rfl ?_
              refine q_skip rfl rfl rfl ?_
              refine q_skip rfl rfl rfl ?_
              first | refine q_pure rfl rfl rfl rfl (pv_pickT rfl rfl) ?_ | refine q_pure rfl rfl rfl rfl (pv_pickF rfl rfl) ?_
              first | refine q_nil0 ?_ | refine q_nil ?_
              refine AWp.cond (b := true) rfl (fun _ => ?_) (fun h => by cases h)
              refine AWp.seq ?_
              refine AWp.region E_ok.ok ?_
              refine s_pure rfl rfl (pv_asg rfl) ?_
              refine s_nil ?_
              refine AWp.ret ?_
              refine ⟨_, rfl, 1, _, rfl, ?_⟩
              show AV.bool false = _
              rw [tb_false]
              intro H
              first | (have := H.1; have := H.2.1; omega) | (have := H.2.2 k p hp; obtain ⟨⟨_, _, _, _⟩, h5⟩ := this; first | omega | (have := h5 q (by omega) hq; simp_all))
            · intro h7x11
              first | refine q_pure rfl rfl rfl rfl (pv_pickT rfl rfl) ?_ | refine q_pure rfl rfl rfl rfl (pv_pickF rfl rfl) ?_
              refine q_pure rfl rfl rfl rfl (pv_mov rfl) ?_
              first | refine q_pure rfl rfl rfl rfl (pv_fld T53 rfl rfl T3 (by decide) rfl) ?_ | refine q_pure rfl rfl rfl rfl (pv_fldi T53 rfl rfl T3 (by decide) rfl) ?_
              first | refine q_imm rfl rfl rfl rfl (rv_loadi rfl (part_sc T3 rfl rfl)) ?_ | refine q_read rfl rfl rfl rfl (rv_load rfl) hg6x5 (part_sc T3 rfl rfl) ?_ | refine q_read rfl rfl rfl rfl (rv_load rfl) hg6x4 (part_sc T3 rfl rfl) ?_
              refine q_splitP rfl rfl rfl rfl (pv_int rfl rfl rfl) decide_eq_true_iff ?_ ?_
              · intro h7x16
                first | refine q_pure rfl rfl rfl rfl (pv_pickT rfl rfl) ?_ | refine q_pure rfl rfl rfl rfl (pv_pickF rfl rfl) ?_
                refine q_pure rfl rfl rfl rfl (pv_mov rfl) ?_
                refine q_skip rfl rfl rfl ?_
                refine q_skip rfl rfl rfl ?_
                refine q_skip rfl rfl rfl ?_
                refine q_skip rfl rfl rfl ?_
                refine q_skip rfl rfl rfl ?_
                refine q_skip rfl rfl rfl ?_
                refine q_skip rfl rfl rfl ?_
                refine q_skip rfl rfl rfl ?_
                refine q_skip rfl rfl rfl ?_
                refine q_skip rfl rfl rfl ?_
                refine q_skip rfl rfl rfl ?_
                refine q_skip rfl rfl rfl ?_
                first | refine q_pure rfl rfl rfl rfl (pv_pickT rfl rfl) ?_ | refine q_pure rfl rfl rfl rfl (pv_pickF rfl rfl) ?_
                first | refine q_nil0 ?_ | refine q_nil ?_
                refine AWp.cond (b := true) rfl (fun _ => ?_) (fun h => by cases h)
                refine AWp.seq ?_
                refine AWp.region E_ok.ok ?_
                refine s_pure rfl rfl (pv_asg rfl) ?_
                refine s_nil ?_
                refine AWp.ret ?_
                refine ⟨_, rfl, 1, _, rfl, ?_⟩
                show AV.bool false = _
                rw [tb_false]
                intro H
                first | (have := H.1; have := H.2.1; omega) | (have := H.2.2 k p hp; obtain ⟨⟨_, _, _, _⟩, h5⟩ := this; first | omega | (have := h5 q (by omega) hq; simp_all))
              · intro h7x16
                first | refine q_pure rfl rfl rfl rfl (pv_pickT rfl rfl) ?_ | refine q_pure rfl rfl rfl rfl (pv_pickF rfl rfl) ?_
                refine q_pure rfl rfl rfl rfl (pv_mov rfl) ?_
                refine q_pure rfl rfl rfl rfl (pv_mov rfl) ?_
                refine q_splitP rfl rfl rfl rfl (pv_int rfl rfl rfl) decide_eq_true_iff ?_ ?_
                · intro h7x20
                  obtain ⟨q, hq⟩ := get_some (show k - 1 < l.length by omega)
                  have hkq : (k : Int) - 1 = (k - 1 : Nat) := by omega
                  refine q_pure rfl rfl rfl rfl (pv_mov rfl) ?_
                  refine q_pure rfl rfl rfl rfl (pv_mov rfl) ?_
                  refine q_pure rfl rfl rfl rfl (pv_mov rfl) ?_
                  refine q_pure rfl rfl rfl rfl (pv_sub rfl rfl (by omega) (by omega)) ?_
                  first | refine q_pure rfl rfl rfl rfl (pv_idx T22 rfl T53 rfl rfl (by omega) (by omega) (drop_encI encPt_len hkq hq)) ?_ | refine q_pure rfl rfl rfl rfl (pv_idx_sl T22 rfl T53 rfl rfl (by omega) (by omega)) ?_
                  first | refine q_imm rfl rfl rfl rfl (rv_loadi rfl (part_agg T53 rfl rfl rfl)) ?_ | refine q_read rfl rfl rfl rfl (rv_load rfl) hg6x5 (part_agg T53 rfl rfl rfl) ?_ | refine q_read rfl rfl rfl rfl (rv_load rfl) hg6x4 (part_agg T53 rfl rfl rfl) ?_
                  first | refine q_imm rfl rfl rfl rfl (rv_loadi rfl (part_agg T53 rfl rfl rfl)) ?_ | refine q_read rfl rfl rfl rfl (rv_load rfl) hg6x5 (part_agg T53 rfl rfl rfl) ?_ | refine q_read rfl rfl rfl rfl (rv_load rfl) hg6x4 (part_agg T53 rfl rfl rfl) ?_
                  refine q_callp rfl rfl rfl rfl rfl (before_ok q p) ?_
                  intro r hr
                  rcases bool_split hr with ⟨rfl, hb⟩ | ⟨rfl, hb⟩
                  · skip
                    refine q_pure rfl rfl rfl rfl (pv_un rfl rfl) ?_
                    first | refine q_pure rfl rfl rfl rfl (pv_pickT rfl rfl) ?_ | refine q_pure rfl rfl rfl rfl (pv_pickF rfl rfl) ?_
                    first | refine q_pure rfl rfl rfl rfl (pv_pickT rfl rfl) ?_ | refine q_pure rfl rfl rfl rfl (pv_pickF rfl rfl) ?_
                    first | refine q_nil0 ?_ | refine q_nil ?_
                    refine AWp.cond (b := false) rfl (fun h => by cases h) (fun _ => ?_)
                    refine AWp.skip ?_
                    refine AWp.region E_ok.ok ?_
                    refine s_pure rfl rfl (pv_mov rfl) ?_
                    refine s_pure rfl rfl (pv_add rfl rfl (by omega) (by omega)) ?_
                    refine s_pure rfl rfl (pv_asg rfl) ?_
                    refine s_nil ?_
                    refine ⟨⟨(k + 1, _), by omega, hinv.step hp ⟨by omega, by omega, by omega, by omega⟩ ?_⟩, by dsimp only; omega, Weak.frL rfl ⟨rfl, rfl, trivial⟩⟩
                    intro q' h0 hq'
                    first | omega | (rw [hq] at hq'; cases hq'; simp_all)
                  · skip
                    refine q_pure rfl rfl rfl rfl (pv_un rfl rfl) ?_
                    first | refine q_pure rfl rfl rfl rfl (pv_pickT rfl rfl) ?_ | refine q_pure rfl rfl rfl rfl (pv_pickF rfl rfl) ?_
                    first | refine q_pure rfl rfl rfl rfl (pv_pickT rfl rfl) ?_ | refine q_pure rfl rfl rfl rfl (pv_pickF rfl rfl) ?_
                    first | refine q_nil0 ?_ | refine q_nil ?_
                    refine AWp.cond (b := true) rfl (fun _ => ?_) (fun h => by cases h)
                    refine AWp.seq ?_
                    refine AWp.region E_ok.ok ?_
                    refine s_pure rfl rfl (pv_asg rfl) ?_
                    refine s_nil ?_
                    refine AWp.ret ?_
                    refine ⟨_, rfl, 1, _, rfl, ?_⟩
                    show AV.bool false = _
                    rw [tb_false]
                    intro H
                    first | (have := H.1; have := H.2.1; omega) | (have := H.2.2 k p hp; obtain ⟨⟨_, _, _, _⟩, h5⟩ := this; first | omega | (have := h5 q (by omega) hq; simp_all))
                · intro h7x20
                  refine q_pure rfl rfl rfl rfl (pv_mov rfl) ?_
                  refine q_skip rfl rfl rfl ?_
                  refine q_skip rfl rfl rfl ?_
                  refine q_skip rfl rfl rfl ?_
                  refine q_skip rfl rfl rfl ?_
                  refine q_skip rfl rfl rfl ?_
                  refine q_skip rfl rfl rfl ?_
                  refine q_skip rfl rfl rfl ?_
                  refine q_skip rfl rfl rfl ?_
                  first | refine q_pure rfl rfl rfl rfl (pv_pickT rfl rfl) ?_ | refine q_pure rfl rfl rfl rfl (pv_pickF rfl rfl) ?_
                  first | refine q_pure rfl rfl rfl rfl (pv_pickT rfl rfl) ?_ | refine q_pure rfl rfl rfl rfl (pv_pickF rfl rfl) ?_
                  first | refine q_nil0 ?_ | refine q_nil ?_
                  refine AWp.cond (b := false) rfl (fun h => by cases h) (fun _ => ?_)
                  refine AWp.skip ?_
                  refine AWp.region E_ok.ok ?_
                  refine s_pure rfl rfl (pv_mov rfl) ?_
                  refine s_pure rfl rfl (pv_add rfl rfl (by omega) (by omega)) ?_
                  refine s_pure rfl rfl (pv_asg rfl) ?_
                  refine s_nil ?_
                  refine ⟨⟨(k + 1, _), by omega, hinv.step hp ⟨by omega, by omega, by omega, by omega⟩ ?_⟩, by dsimp only; omega, Weak.frL rfl ⟨rfl, rfl, trivial⟩⟩
                  intro q' h0 hq'
                  first | omega | (rw [hq] at hq'; cases hq'; simp_all)
      · intro h4x3
        refine s_nil ?_
        refine AWp.cond (b := false) rfl (fun h => by cases h) (fun _ => ?_)
        refine AWp.exit ?_
        refine AWp.seq ?_
        refine AWp.region E_ok.ok ?_
        refine s_pure rfl rfl (pv_asg rfl) ?_
        refine s_nil ?_
        refine AWp.ret ?_
        refine ⟨_, rfl, 1, _, rfl, ?_⟩
        show AV.bool true = _
        rw [tb_true]
        exact ⟨by omega, by omega, fun j p h => hinv j p (by have := (List.getElem?_eq_some_iff.1 h).1; omega) h⟩
end Go.Am.Seat

/- A part of the proof about cellularlaw49.OrphanBalanced: lemmas only; what they say is theirs alone and no condition of the claim. -/
import Derived.Test.YtjdldndhbbkflaaGreatDoorSaP
set_option autoImplicit false
set_option linter.unusedVariables false
set_option linter.unusedSimpArgs false
set_option maxRecDepth 100000
noncomputable section
namespace Go.Am.Seat
open Go Go.Am Go.Proofs
/-- the counts of the nodes before n -/
def LsOk (nodes : List Nd) (S : Nat) (n : Nat) (Ls : List AV) : Prop :=
  ∀ (j : Nat) (x : Nd), j < n → nodes[j]? = some x → ∃ cap cs, Ls[j]? = some (.vec false S cap cs) ∧ IsBs ((List.range S).map (wl nodes x.level.toNat j)) cs
theorem LsOk.noBlks {nodes : List Nd} {S n : Nat} {Ls : List AV} (h : LsOk nodes S n Ls) (hl : Ls.length = n) (hn : n ≤ nodes.length) : noBlks Ls = true := by
  have key : ∀ v ∈ Ls, noBlk v = true := by
    intro v hv
    obtain ⟨j, hj⟩ := List.getElem?_of_mem hv
    have hjl := (List.getElem?_eq_some_iff.1 hj).1
    obtain ⟨x, hx⟩ := get_some (show j < nodes.length by omega)
    obtain ⟨cap, cs, h1, h2⟩ := h j x (by omega) hx
    rw [hj] at h1
    obtain rfl := Option.some.inj h1
    exact h2.noBlks
  clear h hl
  induction Ls with
  | nil => rfl
  | cons a l ih => simp only [Am.noBlks, key a List.mem_cons_self, ih fun v hv => key v (List.mem_cons_of_mem _ hv), Bool.and_self]
theorem balancedR_ok (t : Tr) (hw : t.Wf) : PureR E.C 13 [t.av] (BalPost t) := by
  refine PureR.of_empty plain t.noBlks ?_
  obtain ⟨st, ⟨hnl, hcap, hood⟩, ⟨nnl, ncap, nodes⟩⟩ := t
  have hright := rightR_ok _ hw
  have hcle := @cnts_le ⟨st, ⟨hnl, hcap, hood⟩, ⟨nnl, ncap, nodes⟩⟩
  dsimp only [Tr.av, Tr.cells, Sl.av, cnts] at hright hcle ⊢
  refine ACall.of_body E_ok.ok Tryz.func13 rfl (by kernel_rfl) ?_
  have hn00 : AH.empty.next = 0 := rfl
  have hfrom := fromR_ok
  have hadd := addR_ok
  have hcmp := compareR_ok
  refine AWp.seq ?_
  refine AWp.region E_ok.ok ?_
  refine s_newG rfl rfl (nv_box rfl rfl) ?_
  intro A0x0 hn0x0 hg0x0 hk0x0
  refine s_pure rfl rfl (pv_asg rfl) ?_
  refine s_pure rfl rfl (pv_asg rfl) ?_
  refine s_nil ?_
  refine AWp.seq ?_
  refine AWp.seq ?_
  refine AWp.region E_ok.ok ?_
  first | refine s_imm rfl rfl (rv_loadi rfl (part_agg T25 rfl rfl rfl)) ?_ | refine s_read rfl rfl (rv_load rfl) hg0x0 (part_agg T25 rfl rfl rfl) ?_
  refine s_callp rfl rfl rfl hright ?_
  intro r hr
  rcases bool_split hr with ⟨rfl, hok⟩ | ⟨rfl, hok⟩
  · skip
    refine s_pure rfl rfl (pv_un rfl rfl) ?_
    refine s_nil ?_
    refine AWp.cond (b := false) rfl (fun h => by cases h) (fun _ => ?_)
    refine AWp.skip ?_
    refine AWp.seq ?_
    refine AWp.region E_ok.ok ?_
    refine s_pure rfl rfl (pv_asg rfl) ?_
    refine s_nil ?_
    refine AWp.seq ?_
    refine AWp.seq ?_
    refine AWp.region E_ok.ok ?_
    refine s_pure rfl rfl (pv_asg rfl) ?_
    refine s_nil ?_
    refine AWp.block ?_
    have hT := tb_iff.1 hok
    have hTs := hT.states
    have hTh := hT.hood
    have hTn := hT.size
    have hTr := hT.root
    have hTo := hT.node
    have hcle1 := hcle hT
    dsimp only at hTs hTh hTn hTr hcle1
    obtain ⟨S, hS⟩ : ∃ S : Nat, st = S := ⟨st.toNat, by omega⟩
    have hSt : st.toNat = S := by omega
    rw [hSt] at hcle1
    subst hS
    rw [hn00] at hg0x0
    have hn8 : ∀ d ∈ nodes, d.next.length ≤ 8 := by
      intro d hd
      obtain ⟨j, hj⟩ := List.getElem?_of_mem hd
      have := (hTo j d hj).2.2.1
      dsimp only at this
      omega
    refine AWp.loop (σ := {s : Nat × AV × List AV × AH // s.1 ≤ nodes.length ∧ s.2.2.2.get 0 = some (.cells [.int .i64 (S : Int), .vec hnl hood.length hcap (hood.flatMap encPt), .vec nnl nodes.length ncap (nodes.flatMap encNd)]) ∧ LsOk nodes S s.1 s.2.2.1 ∧ ∃ hi, Own 1 1 hi s.2.2.2 s.2.1 s.1 s.2.2.1})
      (fun s => frL 112 [(1, .ptr 0 0), (4, s.1.2.1), (5, .int .i64 s.1.1)]) (fun s => s.1.2.2.2) (fun s => nodes.length - s.1.1)
      ⟨(0, _, [], A0x0), Nat.zero_le _, hg0x0, fun j x h => (by dsimp only at h; omega), 1, .nil (nl := true) (Nat.le_refl _) (by dsimp only; omega)⟩ (Weak.frL rfl ⟨(by show some (AV.ptr AH.empty.next 0) = _; rw [hn00]), rfl, rfl, trivial⟩) ?_
    clear hg0x0 hk0x0 hn0x0
    rintro ⟨⟨i, v, Ls, A⟩, hi0, h0, hLs, hi, hO⟩
    dsimp only at hi0 h0 hLs hO ⊢
    have hn0 := hO.next
    refine AWp.seq ?_
    refine AWp.seq ?_
    refine AWp.region E_ok.ok ?_
    refine s_pure rfl rfl (pv_mov rfl) ?_
    first | refine s_pure rfl rfl (pv_fld T25 rfl rfl T23 (by decide) rfl) ?_ | refine s_pure rfl rfl (pv_fldi T25 rfl rfl T23 (by decide) rfl) ?_
    first | refine s_imm rfl rfl (rv_loadi rfl (part_sc T23 rfl rfl)) ?_ | refine s_read rfl rfl (rv_load rfl) h0 (part_sc T23 rfl rfl) ?_
    first | refine s_pure rfl rfl (pv_len T23 rfl rfl) ?_ | refine s_pure rfl rfl (pv_len_sl T23 rfl rfl) ?_
    refine s_splitP rfl rfl (pv_int rfl rfl rfl) decide_eq_true_iff ?_ ?_
    · intro h5x4
      obtain ⟨x, hx⟩ := get_some (show i < nodes.length by omega)
      have hii : (i : Int) = i := rfl
      obtain ⟨N1, N2, N3, N4⟩ := hTo i x hx
      dsimp only at N1 N2 N3 N4
      have hxl : x.next.length = S := by omega
      obtain ⟨L, hL⟩ : ∃ L : Nat, x.level = (L + 1 : Nat) := ⟨x.level.toNat - 1, by omega⟩
      have hhl : hood.length ≤ 25 := hTh.2.1
      have hL24 : L ≤ 24 := by omega
      have hL1 : x.level.toNat = L + 1 := by omega
      have hconb : ∀ s k, con (wl nodes L) L s k ≤ 8 ^ L := by
        intro s k
        unfold con
        split
        · split
          · exact Nat.pow_pos (by decide)
          · exact Nat.zero_le _
        · exact wl_le hn8 _ _ _
      have hsumb : ∀ s j, ((x.next.take j).map (con (wl nodes L) L s)).sum ≤ 8 ^ 25 := by
        intro s j
        refine Nat.le_trans (take_sum_le _ _ _) (Nat.le_trans (sum_le (hconb s)) ?_)
        rw [hxl]
        refine Nat.le_trans (Nat.mul_le_mul_right _ (show S ≤ 8 by omega)) ?_
        rw [show 8 * 8 ^ L = 8 ^ (L + 1) by rw [Nat.pow_succ, Nat.mul_comm]]
        exact Nat.pow_le_pow_right (by decide) (by omega)
      have hconb2 : ∀ s k, con (wl nodes L) L s k ≤ 8 ^ 25 := fun s k => Nat.le_trans (hconb s k) (Nat.pow_le_pow_right (by decide) (by omega))
      refine s_nil ?_
      refine AWp.cond (b := true) rfl (fun _ => ?_) (fun h => by cases h)
      refine AWp.skip ?_
      refine AWp.seq ?_
      refine AWp.block ?_
      refine AWp.seq ?_
      refine AWp.region E_ok.ok ?_
      first | refine s_pure rfl rfl (pv_fld T25 rfl rfl T3 (by decide) rfl) ?_ | refine s_pure rfl rfl (pv_fldi T25 rfl rfl T3 (by decide) rfl) ?_
      first | refine s_imm rfl rfl (rv_loadi rfl (part_sc T3 rfl rfl)) ?_ | refine s_read rfl rfl (rv_load rfl) h0 (part_sc T3 rfl rfl) ?_
      refine s_newG rfl rfl (nv_make T37 rfl T42 rfl rfl (by omega) (by omega) (by omega) (by show (32 : Int) * (S : Int) ≤ 281474976710656; omega) rfl rfl) ?_
      intro A7 hn7 hg7 hk7
      replace h0 := hk7 _ _ (by omega) h0
      replace hO := hO.grow hk7 (by omega)
      replace hg7 : A7.get A.next = some (.cells (reps ty42.zero S)) := hg7
      refine s_pure rfl rfl (pv_asg rfl) ?_
      refine s_nil ?_
      refine AWp.seq ?_
      refine AWp.seq ?_
      refine AWp.region E_ok.ok ?_
      refine s_pure rfl rfl (pv_asg rfl) ?_
      refine s_nil ?_
      refine AWp.block ?_
      have hq0 : IsBs ((List.range S).map fun s => ((x.next.take 0).map (con (wl nodes L) L s)).sum) (reps ty42.zero S) := by
        have : (List.range S).map (fun s => ((x.next.take 0).map (con (wl nodes L) L s)).sum) = List.replicate S 0 := by
          rw [show (fun s => ((x.next.take 0).map (con (wl nodes L) L s)).sum) = fun _ => 0 from by funext s; simp, List.map_const', List.length_range]
        rw [this]; exact IsBs.zero S
      refine AWp.loop (σ := {s : Nat × List AV × AH // s.1 ≤ S ∧ s.2.2.get 0 = some (.cells [.int .i64 (S : Int), .vec hnl hood.length hcap (hood.flatMap encPt), .vec nnl nodes.length ncap (nodes.flatMap encNd)]) ∧ s.2.2.get A.next = some (.cells s.2.1) ∧ Own 1 1 hi s.2.2 v i Ls ∧
          IsBs ((List.range S).map fun s' => ((x.next.take s.1).map (con (wl nodes L) L s')).sum) s.2.1 ∧ A.next < s.2.2.next})
        (fun s => frL 112 [(1, .ptr 0 0), (4, v), (5, .int .i64 i), (6, .slice A.next 0 S (some S) 2), (7, .int .i64 s.1.1)]) (fun s => s.1.2.2) (fun s => S - s.1.1)
        ⟨(0, _, A7), Nat.zero_le _, h0, hg7, hO, hq0, by dsimp only; omega⟩ (Weak.frL rfl ⟨rfl, rfl, rfl, rfl, rfl, trivial⟩) ?_
      clear h0 hg7 hO hq0 hk7 hn7
      rintro ⟨⟨k, cs2, A2⟩, hk, h0, hc, hO, hcs, hn2⟩
      dsimp only at hk h0 hc hO hcs hn2 ⊢
      refine AWp.seq ?_
      refine AWp.seq ?_
      refine AWp.region E_ok.ok ?_
      refine s_pure rfl rfl (pv_mov rfl) ?_
      first | refine s_pure rfl rfl (pv_fld T25 rfl rfl T3 (by decide) rfl) ?_ | refine s_pure rfl rfl (pv_fldi T25 rfl rfl T3 (by decide) rfl) ?_
      first | refine s_imm rfl rfl (rv_loadi rfl (part_sc T3 rfl rfl)) ?_ | refine s_read rfl rfl (rv_load rfl) hc (part_sc T3 rfl rfl) ?_ | refine s_read rfl rfl (rv_load rfl) h0 (part_sc T3 rfl rfl) ?_
      refine s_splitP rfl rfl (pv_int rfl rfl rfl) decide_eq_true_iff ?_ ?_
      · intro h9x3
        obtain ⟨m, hmk⟩ := get_some (show k < x.next.length by omega)
        have hkk : (k : Int) = k := rfl
        obtain ⟨M1, M2, M3⟩ := N4 k m hmk
        refine s_nil ?_
        refine AWp.cond (b := true) rfl (fun _ => ?_) (fun h => by cases h)
        refine AWp.skip ?_
        refine AWp.seq ?_
        refine AWp.block ?_
        refine AWp.seq ?_
        refine AWp.region E_ok.ok ?_
        first | refine s_pure rfl rfl (pv_fld T25 rfl rfl T23 (by decide) rfl) ?_ | refine s_pure rfl rfl (pv_fldi T25 rfl rfl T23 (by decide) rfl) ?_
        first | refine s_imm rfl rfl (rv_loadi rfl (part_sc T23 rfl rfl)) ?_ | refine s_read rfl rfl (rv_load rfl) hc (part_sc T23 rfl rfl) ?_ | refine s_read rfl rfl (rv_load rfl) h0 (part_sc T23 rfl rfl) ?_
        refine s_pure rfl rfl (pv_mov rfl) ?_
        first | refine s_pure rfl rfl (pv_idx T23 rfl T49 rfl rfl (by omega) (by omega) (drop_encI encNd_len hii hx)) ?_ | refine s_pure rfl rfl (pv_idx_sl T23 rfl T49 rfl rfl (by omega) (by omega)) ?_
        first | refine s_pure rfl rfl (pv_fld T49 rfl rfl T29 (by decide) rfl) ?_ | refine s_pure rfl rfl (pv_fldi T49 rfl rfl T29 (by decide) rfl) ?_
        first | refine s_imm rfl rfl (rv_loadi rfl (part_sc T29 rfl rfl)) ?_ | refine s_read rfl rfl (rv_load rfl) hc (part_sc T29 rfl rfl) ?_ | refine s_read rfl rfl (rv_load rfl) h0 (part_sc T29 rfl rfl) ?_
        refine s_pure rfl rfl (pv_mov rfl) ?_
        first | refine s_pure rfl rfl (pv_idx T29 rfl T3 rfl rfl (by omega) (by omega) (drop_map hkk hmk)) ?_ | refine s_pure rfl rfl (pv_idx_sl T29 rfl T3 rfl rfl (by omega) (by omega)) ?_
        first | refine s_imm rfl rfl (rv_loadi rfl (part_sc T3 rfl rfl)) ?_ | refine s_read rfl rfl (rv_load rfl) hc (part_sc T3 rfl rfl) ?_ | refine s_read rfl rfl (rv_load rfl) h0 (part_sc T3 rfl rfl) ?_
        refine s_pure rfl rfl (pv_asg rfl) ?_
        refine s_nil ?_
        refine AWp.seq ?_
        refine AWp.region E_ok.ok ?_
        refine s_pure rfl rfl (pv_asg rfl) ?_
        refine s_nil ?_
        refine AWp.block ?_
        have hq0 : IsBs ((List.range S).map fun s => if s < 0 then ((x.next.take (k + 1)).map (con (wl nodes L) L s)).sum else ((x.next.take k).map (con (wl nodes L) L s)).sum) cs2 := by
          simpa using hcs
        refine AWp.loop (σ := {s : Nat × List AV × AH // s.1 ≤ S ∧ s.2.2.get 0 = some (.cells [.int .i64 (S : Int), .vec hnl hood.length hcap (hood.flatMap encPt), .vec nnl nodes.length ncap (nodes.flatMap encNd)]) ∧ s.2.2.get A.next = some (.cells s.2.1) ∧ Own 1 1 hi s.2.2 v i Ls ∧
            IsBs ((List.range S).map fun s' => if s' < s.1 then ((x.next.take (k + 1)).map (con (wl nodes L) L s')).sum else ((x.next.take k).map (con (wl nodes L) L s')).sum) s.2.1 ∧ A.next < s.2.2.next})
          (fun s => frL 112 [(1, .ptr 0 0), (4, v), (5, .int .i64 i), (6, .slice A.next 0 S (some S) 2), (7, .int .i64 k), (8, .int .i64 m), (9, .int .i64 s.1.1)]) (fun s => s.1.2.2) (fun s => S - s.1.1)
          ⟨(0, cs2, A2), Nat.zero_le _, h0, hc, hO, hq0, hn2⟩ (Weak.frL rfl ⟨rfl, rfl, rfl, rfl, rfl, rfl, rfl, trivial⟩) ?_
        clear h0 hc hO hq0 hcs hn2
        rintro ⟨⟨q, cs4, A4⟩, hq, h0, hc, hO, hcs, hn4⟩
        dsimp only at hq h0 hc hO hcs hn4 ⊢
        refine AWp.seq ?_
        refine AWp.seq ?_
        refine AWp.region E_ok.ok ?_
        refine s_pure rfl rfl (pv_mov rfl) ?_
        first | refine s_pure rfl rfl (pv_fld T25 rfl rfl T3 (by decide) rfl) ?_ | refine s_pure rfl rfl (pv_fldi T25 rfl rfl T3 (by decide) rfl) ?_
        first | refine s_imm rfl rfl (rv_loadi rfl (part_sc T3 rfl rfl)) ?_ | refine s_read rfl rfl (rv_load rfl) hc (part_sc T3 rfl rfl) ?_ | refine s_read rfl rfl (rv_load rfl) h0 (part_sc T3 rfl rfl) ?_
        refine s_splitP rfl rfl (pv_int rfl rfl rfl) decide_eq_true_iff ?_ ?_
        · intro h13x3
          have hqS : q < S := by omega
          have hqq : (q : Int) = q := rfl
          obtain ⟨nlo, capo, resto, hdrop⟩ := hcs.get (get_range hqS)
          rw [if_neg (Nat.lt_irrefl q)] at hdrop
          have hb1 := hsumb q k
          have hb2 := hconb2 q m
          have hdrop' : cs4.drop (0 + (q : Int).toNat * ty42.size) = .bool false :: vU nlo capo (PB.dig WD (((x.next.take k).map (con (wl nodes L) L q)).sum)) :: resto := by
            rw [Nat.zero_add]; exact hdrop
          refine s_nil ?_
          refine AWp.cond (b := true) rfl (fun _ => ?_) (fun h => by cases h)
          refine AWp.skip ?_
          refine AWp.seq ?_
          refine AWp.block ?_
          refine AWp.seq ?_
          refine AWp.region E_ok.ok ?_
          refine s_pure rfl rfl (pv_build (pl := [(0, 1), (1, 1)]) T42 rfl rfl (by show omap _ [_, _] = some _; simp only [omap, T4, T40, Option.map_some]; rfl) rfl) ?_
          refine s_newG rfl rfl (nv_alloc T42 rfl) ?_
          intro A15x1 hn15x1 hg15x1 hk15x1
          replace h0 := hk15x1 _ _ (by omega) h0
          replace hc := hk15x1 _ _ (by omega) hc
          replace hO := hO.grow hk15x1 (by omega)
          first | refine s_putG rfl rfl (ev_store T42 rfl rfl (by intro vs h; cases h) (hg15x1) rfl (by first | exact Nat.le_of_ble_eq_true rfl | (simp; omega)) rfl) ?_ | refine s_putG rfl rfl (ev_store T42 rfl rfl (by intro vs h; cases h) (hc) rfl (by first | exact Nat.le_of_ble_eq_true rfl | (simp; omega)) rfl) ?_ | refine s_putG rfl rfl (ev_store T42 rfl rfl (by intro vs h; cases h) (h0) rfl (by first | exact Nat.le_of_ble_eq_true rfl | (simp; omega)) rfl) ?_
          intro A15x2 hn15x2 hg15x2 hk15x2
          first | replace h0 := hk15x2 _ _ (by omega) h0 | skip
          first | replace hc := hk15x2 _ _ (by omega) hc | skip
          first | replace hg15x1 := hk15x2 _ _ (by omega) hg15x1 | skip
          replace hO := hO.chg hk15x2 (by omega) (by omega)
          refine s_nil ?_
          refine AWp.seq ?_
          refine AWp.seq ?_
          refine AWp.region E_ok.ok ?_
          first | refine s_pure rfl rfl (pv_fld T25 rfl rfl T23 (by decide) rfl) ?_ | refine s_pure rfl rfl (pv_fldi T25 rfl rfl T23 (by decide) rfl) ?_
          first | refine s_imm rfl rfl (rv_loadi rfl (part_sc T23 rfl rfl)) ?_ | refine s_read rfl rfl (rv_load rfl) hg15x2 (part_sc T23 rfl rfl) ?_ | refine s_read rfl rfl (rv_load rfl) hg15x1 (part_sc T23 rfl rfl) ?_ | refine s_read rfl rfl (rv_load rfl) hc (part_sc T23 rfl rfl) ?_ | refine s_read rfl rfl (rv_load rfl) h0 (part_sc T23 rfl rfl) ?_
          refine s_pure rfl rfl (pv_mov rfl) ?_
          first | refine s_pure rfl rfl (pv_idx T23 rfl T49 rfl rfl (by omega) (by omega) (drop_encI encNd_len hii hx)) ?_ | refine s_pure rfl rfl (pv_idx_sl T23 rfl T49 rfl rfl (by omega) (by omega)) ?_
          first | refine s_pure rfl rfl (pv_fld T49 rfl rfl T3 (by decide) rfl) ?_ | refine s_pure rfl rfl (pv_fldi T49 rfl rfl T3 (by decide) rfl) ?_
          first | refine s_imm rfl rfl (rv_loadi rfl (part_sc T3 rfl rfl)) ?_ | refine s_read rfl rfl (rv_load rfl) hg15x2 (part_sc T3 rfl rfl) ?_ | refine s_read rfl rfl (rv_load rfl) hg15x1 (part_sc T3 rfl rfl) ?_ | refine s_read rfl rfl (rv_load rfl) hc (part_sc T3 rfl rfl) ?_ | refine s_read rfl rfl (rv_load rfl) h0 (part_sc T3 rfl rfl) ?_
          refine s_splitP rfl rfl (pv_int rfl rfl rfl) decide_eq_true_iff ?_ ?_
          · intro h16x6
            have hL0 : ¬ L = 0 := by omega
            have hmi : m < i := (M3 (by omega)).1
            have hmm : m = (m.toNat : Nat) := by omega
            obtain ⟨y, hy⟩ := get_some (show m.toNat < nodes.length by omega)
            have hylev := (M3 (by omega)).2 y hy
            obtain ⟨capy, csy, hLy, hcsy⟩ := hLs m.toNat y (by omega) hy
            rw [show y.level.toNat = L by omega] at hcsy
            obtain ⟨nly, capy2, resty, hdropy⟩ := hcsy.dropI hqq (get_range hqS)
            obtain ⟨βl, hvl, hβl, hlo, hhi⟩ := hO.pos (show 0 < i by omega)
            have hcon : con (wl nodes L) L q m = wl nodes L m.toNat q := by rw [con, if_neg hL0]
            refine s_nil ?_
            refine AWp.cond (b := true) rfl (fun _ => ?_) (fun h => by cases h)
            refine AWp.region E_ok.ok ?_
            subst hvl
            refine s_pure rfl rfl (pv_mov rfl) ?_
            refine s_pure rfl rfl (pv_mov rfl) ?_
            first | refine s_pure rfl rfl (pv_idx T71 rfl T37 rfl rfl (by omega) (by omega) (rfl)) ?_ | refine s_pure rfl rfl (pv_idx_sl T71 rfl T37 rfl rfl (by omega) (by omega)) ?_
            refine s_read rfl rfl (rv_load rfl) hβl (part_sc T37 rfl (show Ls[0 + m.toNat * ty29.size]? = some _ by rw [show 0 + m.toNat * ty29.size = m.toNat by show 0 + m.toNat * 1 = _; omega]; exact hLy)) ?_
            refine s_pure rfl rfl (pv_mov rfl) ?_
            first | refine s_pure rfl rfl (pv_idx T37 rfl T42 rfl rfl (by omega) (by omega) (hdropy)) ?_ | refine s_pure rfl rfl (pv_idx_sl T37 rfl T42 rfl rfl (by omega) (by omega)) ?_
            first | refine s_imm rfl rfl (rv_loadi rfl (part_agg T42 rfl rfl rfl)) ?_ | refine s_read rfl rfl (rv_load rfl) hg15x2 (part_agg T42 rfl rfl rfl) ?_ | refine s_read rfl rfl (rv_load rfl) hg15x1 (part_agg T42 rfl rfl rfl) ?_ | refine s_read rfl rfl (rv_load rfl) hc (part_agg T42 rfl rfl rfl) ?_ | refine s_read rfl rfl (rv_load rfl) h0 (part_agg T42 rfl rfl rfl) ?_
            first | refine s_putG rfl rfl (ev_store T42 rfl rfl (by intro vs h; cases h) (hg15x2) rfl (by first | exact Nat.le_of_ble_eq_true rfl | (simp; omega)) rfl) ?_ | refine s_putG rfl rfl (ev_store T42 rfl rfl (by intro vs h; cases h) (hg15x1) rfl (by first | exact Nat.le_of_ble_eq_true rfl | (simp; omega)) rfl) ?_ | refine s_putG rfl rfl (ev_store T42 rfl rfl (by intro vs h; cases h) (hc) rfl (by first | exact Nat.le_of_ble_eq_true rfl | (simp; omega)) rfl) ?_ | refine s_putG rfl rfl (ev_store T42 rfl rfl (by intro vs h; cases h) (h0) rfl (by first | exact Nat.le_of_ble_eq_true rfl | (simp; omega)) rfl) ?_
            intro A17x7 hn17x7 hg17x7 hk17x7
            first | replace h0 := hk17x7 _ _ (by omega) h0 | skip
            first | replace hc := hk17x7 _ _ (by omega) hc | skip
            first | replace hg15x1 := hk17x7 _ _ (by omega) hg15x1 | skip
            first | replace hg15x2 := hk17x7 _ _ (by omega) hg15x2 | skip
            replace hO := hO.chg hk17x7 (by omega) (by omega)
            refine s_nil ?_
            refine AWp.seq ?_
            refine AWp.fresh fun hfr => ?_
            refine AWp.drawq E_ok.ok (ord := [0, 1, 2, 3, 4, 9, 5, 6, 7, 8, 10, 11]) (by kernel_rfl) ?_
            refine q_pure rfl rfl rfl rfl (pv_mov rfl) ?_
            refine q_pure rfl rfl rfl rfl (pv_mov rfl) ?_
            first | refine q_pure rfl rfl rfl rfl (pv_idx T37 rfl T42 rfl rfl (by omega) (by omega) (rfl)) ?_ | refine q_pure rfl rfl rfl rfl (pv_idx_sl T37 rfl T42 rfl rfl (by omega) (by omega)) ?_
            refine q_read rfl rfl rfl rfl (rv_load rfl) hc (part_agg T42 rfl (show (cs4.drop (0 + (q : Int).toNat * ty42.size)).take ty42.size = [.bool false, vU nlo capo (PB.dig WD (((x.next.take k).map (con (wl nodes L) L q)).sum))] by rw [hdrop']; rfl) rfl) ?_
            first | refine q_imm rfl rfl rfl rfl (rv_loadi rfl (part_agg T42 rfl rfl rfl)) ?_ | refine q_read rfl rfl rfl rfl (rv_load rfl) hg17x7 (part_agg T42 rfl rfl rfl) ?_ | refine q_read rfl rfl rfl rfl (rv_load rfl) hg15x2 (part_agg T42 rfl rfl rfl) ?_ | refine q_read rfl rfl rfl rfl (rv_load rfl) hg15x1 (part_agg T42 rfl rfl rfl) ?_ | refine q_read rfl rfl rfl rfl (rv_load rfl) hc (part_agg T42 rfl rfl rfl) ?_ | refine q_read rfl rfl rfl rfl (rv_load rfl) h0 (part_agg T42 rfl rfl rfl) ?_
            refine q_new rfl rfl rfl rfl (nv_alloc T42 rfl) ?_
            refine q_callpH rfl rfl rfl rfl (hfr _ (Nat.le_refl _)) (by kernel_rfl) rfl ⟨⟨_, rfl, by simp [noBlk, noBlks, vU, noBlks_U, ty42, setRange, aCells]⟩, ⟨_, rfl, by simp [noBlk, noBlks, vU, noBlks_U, ty42, setRange, aCells]⟩, trivial⟩ rfl
              (hadd (((x.next.take k).map (con (wl nodes L) L q)).sum) (con (wl nodes L) L q m) _ _ ⟨nlo, capo, rfl⟩ (by first | exact ⟨nly, capy2, by rw [hcon]; rfl⟩ | exact ⟨true, some 0, by rw [hcon, PB.dig_zero]; rfl⟩)
                (by have := dig_small (Nat.le_trans hb1 (by decide)); omega) (by have := dig_small (Nat.le_trans hb2 (by decide)); omega) (by have := dig8_small (Nat.le_trans hb1 (by decide)); omega) (by have := dig8_small (Nat.le_trans hb2 (by decide)); omega) (by have := dig8_small (Nat.le_trans (Nat.add_le_add hb1 hb2) (by decide)); omega)) ?_
            rintro _ ⟨_, ⟨nlr, capr, rfl⟩, rfl⟩
            refine q_pure rfl rfl rfl rfl (pv_mov rfl) ?_
            refine q_pure rfl rfl rfl rfl (pv_ext rfl rfl) ?_
            refine q_pure rfl rfl rfl rfl (pv_ext rfl rfl) ?_
            refine q_storeH rfl rfl rfl rfl (by kernel_rfl) (by kernel_rfl) (ev_store T42 rfl rfl (by intro vs h; cases h) (AH.get_alloc_self _ _) rfl (by exact Nat.le_of_ble_eq_true rfl) rfl) ?_
            intro A20 hn20 hg20 hk20
            replace h0 := hk20 _ _ (by omega) h0
            replace hc := hk20 _ _ (by omega) hc
            replace hO := hO.grow hk20 (by omega)
            refine q_pure rfl rfl rfl rfl (pv_asg rfl) ?_
            first | refine q_nil0 ?_ | refine q_nil ?_
            refine AWp.region E_ok.ok ?_
            refine s_pure rfl rfl (pv_mov rfl) ?_
            refine s_pure rfl rfl (pv_mov rfl) ?_
            first | refine s_imm rfl rfl (rv_loadi rfl (part_agg T42 rfl rfl rfl)) ?_ | refine s_read rfl rfl (rv_load rfl) hg20 (part_agg T42 rfl rfl rfl) ?_ | refine s_read rfl rfl (rv_load rfl) hg17x7 (part_agg T42 rfl rfl rfl) ?_ | refine s_read rfl rfl (rv_load rfl) hg15x2 (part_agg T42 rfl rfl rfl) ?_ | refine s_read rfl rfl (rv_load rfl) hg15x1 (part_agg T42 rfl rfl rfl) ?_ | refine s_read rfl rfl (rv_load rfl) hc (part_agg T42 rfl rfl rfl) ?_ | refine s_read rfl rfl (rv_load rfl) h0 (part_agg T42 rfl rfl rfl) ?_
            first | refine s_pure rfl rfl (pv_idx T37 rfl T42 rfl rfl (by omega) (by omega) (rfl)) ?_ | refine s_pure rfl rfl (pv_idx_sl T37 rfl T42 rfl rfl (by omega) (by omega)) ?_
            refine s_putG rfl rfl (ev_store T42 rfl rfl (by intro vs h; cases h) hc rfl (by rw [hcs.len, List.length_map, List.length_range]; show 0 + (q : Int).toNat * 2 + 2 ≤ S * 2; omega) rfl) ?_
            intro A21 hn21 hg21 hk21
            have hcs' := hcs.set (k := q) (v := ((x.next.take k).map (con (wl nodes L) L q)).sum + con (wl nodes L) L q m) (nl := nlr) (cap := capr) (by simpa using hqS)
            rw [set_range] at hcs'
            have hfun : (List.range S).map (fun s => if s = q then ((x.next.take k).map (con (wl nodes L) L q)).sum + con (wl nodes L) L q m else if s < q then ((x.next.take (k + 1)).map (con (wl nodes L) L s)).sum else ((x.next.take k).map (con (wl nodes L) L s)).sum) = (List.range S).map (fun s => if s < q + 1 then ((x.next.take (k + 1)).map (con (wl nodes L) L s)).sum else ((x.next.take k).map (con (wl nodes L) L s)).sum) := by
              apply List.map_congr_left
              intro s hs
              by_cases e : s = q
              · subst e; rw [if_pos rfl, if_pos (by omega), take_sum hmk]
              · rw [if_neg e]
                by_cases e2 : s < q
                · rw [if_pos e2, if_pos (by omega)]
                · rw [if_neg e2, if_neg (by omega)]
            rw [hfun] at hcs'
            have hg21' : A21.get A.next = some (.cells (setRange cs4 (q * 2) [.bool false, vU nlr capr (PB.dig WD (((x.next.take k).map (con (wl nodes L) L q)).sum + con (wl nodes L) L q m))])) := by
              rw [hg21, show 0 + (q : Int).toNat * ty42.size = q * 2 by show 0 + (q : Int).toNat * 2 = _; omega]; rfl
            replace h0 := hk21 _ _ (by omega) h0
            replace hO := hO.chg hk21 (by omega) (by omega)
            refine s_nil ?_
            refine AWp.region E_ok.ok ?_
            refine s_pure rfl rfl (pv_mov rfl) ?_
            refine s_pure rfl rfl (pv_add rfl rfl (by omega) (by omega)) ?_
            refine s_pure rfl rfl (pv_asg rfl) ?_
            refine s_nil ?_
            exact ⟨⟨(q + 1, _, A21), by dsimp only; omega, h0, hg21', hO, hcs', by dsimp only; omega⟩, by dsimp only; omega, Weak.frL rfl ⟨rfl, rfl, rfl, rfl, rfl, rfl, rfl, trivial⟩⟩
          · intro h16x6
            have hL0 : L = 0 := by omega
            refine s_nil ?_
            refine AWp.cond (b := false) rfl (fun h => by cases h) (fun _ => ?_)
            refine AWp.seq ?_
            refine AWp.region E_ok.ok ?_
            refine s_pure rfl rfl (pv_mov rfl) ?_
            refine s_pure rfl rfl (pv_mov rfl) ?_
            refine s_splitP rfl rfl (pv_int rfl rfl rfl) beq_iff_eq ?_ ?_
            · intro h18x2
              have hcon : con (wl nodes L) L q m = 1 := by rw [con, if_pos hL0, if_pos (by omega)]
              refine s_nil ?_
              refine AWp.cond (b := true) rfl (fun _ => ?_) (fun h => by cases h)
              refine AWp.region E_ok.ok ?_
              refine s_callp rfl rfl rfl (hfrom 1 (by decide)) ?_
              rintro _ ⟨nly, capy2, rfl⟩
              first | refine s_putG rfl rfl (ev_store T42 rfl rfl (by intro vs h; cases h) (hg15x2) rfl (by first | exact Nat.le_of_ble_eq_true rfl | (simp; omega)) rfl) ?_ | refine s_putG rfl rfl (ev_store T42 rfl rfl (by intro vs h; cases h) (hg15x1) rfl (by first | exact Nat.le_of_ble_eq_true rfl | (simp; omega)) rfl) ?_ | refine s_putG rfl rfl (ev_store T42 rfl rfl (by intro vs h; cases h) (hc) rfl (by first | exact Nat.le_of_ble_eq_true rfl | (simp; omega)) rfl) ?_ | refine s_putG rfl rfl (ev_store T42 rfl rfl (by intro vs h; cases h) (h0) rfl (by first | exact Nat.le_of_ble_eq_true rfl | (simp; omega)) rfl) ?_
              intro A19x1 hn19x1 hg19x1 hk19x1
              first | replace h0 := hk19x1 _ _ (by omega) h0 | skip
              first | replace hc := hk19x1 _ _ (by omega) hc | skip
              first | replace hg15x1 := hk19x1 _ _ (by omega) hg15x1 | skip
              first | replace hg15x2 := hk19x1 _ _ (by omega) hg15x2 | skip
              replace hO := hO.chg hk19x1 (by omega) (by omega)
              refine s_nil ?_
              refine AWp.seq ?_
              refine AWp.fresh fun hfr => ?_
              refine AWp.drawq E_ok.ok (ord := [0, 1, 2, 3, 4, 9, 5, 6, 7, 8, 10, 11]) (by kernel_rfl) ?_
              refine q_pure rfl rfl rfl rfl (pv_mov rfl) ?_
              refine q_pure rfl rfl rfl rfl (pv_mov rfl) ?_
              first | refine q_pure rfl rfl rfl rfl (pv_idx T37 rfl T42 rfl rfl (by omega) (by omega) (rfl)) ?_ | refine q_pure rfl rfl rfl rfl (pv_idx_sl T37 rfl T42 rfl rfl (by omega) (by omega)) ?_
              refine q_read rfl rfl rfl rfl (rv_load rfl) hc (part_agg T42 rfl (show (cs4.drop (0 + (q : Int).toNat * ty42.size)).take ty42.size = [.bool false, vU nlo capo (PB.dig WD (((x.next.take k).map (con (wl nodes L) L q)).sum))] by rw [hdrop']; rfl) rfl) ?_
              first | refine q_imm rfl rfl rfl rfl (rv_loadi rfl (part_agg T42 rfl rfl rfl)) ?_ | refine q_read rfl rfl rfl rfl (rv_load rfl) hg19x1 (part_agg T42 rfl rfl rfl) ?_ | refine q_read rfl rfl rfl rfl (rv_load rfl) hg15x2 (part_agg T42 rfl rfl rfl) ?_ | refine q_read rfl rfl rfl rfl (rv_load rfl) hg15x1 (part_agg T42 rfl rfl rfl) ?_ | refine q_read rfl rfl rfl rfl (rv_load rfl) hc (part_agg T42 rfl rfl rfl) ?_ | refine q_read rfl rfl rfl rfl (rv_load rfl) h0 (part_agg T42 rfl rfl rfl) ?_
              refine q_new rfl rfl rfl rfl (nv_alloc T42 rfl) ?_
              refine q_callpH rfl rfl rfl rfl (hfr _ (Nat.le_refl _)) (by kernel_rfl) rfl ⟨⟨_, rfl, by simp [noBlk, noBlks, vU, noBlks_U, ty42, setRange, aCells]⟩, ⟨_, rfl, by simp [noBlk, noBlks, vU, noBlks_U, ty42, setRange, aCells]⟩, trivial⟩ rfl
                (hadd (((x.next.take k).map (con (wl nodes L) L q)).sum) (con (wl nodes L) L q m) _ _ ⟨nlo, capo, rfl⟩ (by first | exact ⟨nly, capy2, by rw [hcon]; rfl⟩ | exact ⟨true, some 0, by rw [hcon, PB.dig_zero]; rfl⟩)
                  (by have := dig_small (Nat.le_trans hb1 (by decide)); omega) (by have := dig_small (Nat.le_trans hb2 (by decide)); omega) (by have := dig8_small (Nat.le_trans hb1 (by decide)); omega) (by have := dig8_small (Nat.le_trans hb2 (by decide)); omega) (by have := dig8_small (Nat.le_trans (Nat.add_le_add hb1 hb2) (by decide)); omega)) ?_
              rintro _ ⟨_, ⟨nlr, capr, rfl⟩, rfl⟩
              refine q_pure rfl rfl rfl rfl (pv_mov rfl) ?_
              refine q_pure rfl rfl rfl rfl (pv_ext rfl rfl) ?_
              refine q_pure rfl rfl rfl rfl (pv_ext rfl rfl) ?_
              refine q_storeH rfl rfl rfl rfl (by kernel_rfl) (by kernel_rfl) (ev_store T42 rfl rfl (by intro vs h; cases h) (AH.get_alloc_self _ _) rfl (by exact Nat.le_of_ble_eq_true rfl) rfl) ?_
              intro A20 hn20 hg20 hk20
              replace h0 := hk20 _ _ (by omega) h0
              replace hc := hk20 _ _ (by omega) hc
              replace hO := hO.grow hk20 (by omega)
              refine q_pure rfl rfl rfl rfl (pv_asg rfl) ?_
              first | refine q_nil0 ?_ | refine q_nil ?_
              refine AWp.region E_ok.ok ?_
              refine s_pure rfl rfl (pv_mov rfl) ?_
              refine s_pure rfl rfl (pv_mov rfl) ?_
              first | refine s_imm rfl rfl (rv_loadi rfl (part_agg T42 rfl rfl rfl)) ?_ | refine s_read rfl rfl (rv_load rfl) hg20 (part_agg T42 rfl rfl rfl) ?_ | refine s_read rfl rfl (rv_load rfl) hg19x1 (part_agg T42 rfl rfl rfl) ?_ | refine s_read rfl rfl (rv_load rfl) hg15x2 (part_agg T42 rfl rfl rfl) ?_ | refine s_read rfl rfl (rv_load rfl) hg15x1 (part_agg T42 rfl rfl rfl) ?_ | refine s_read rfl rfl (rv_load rfl) hc (part_agg T42 rfl rfl rfl) ?_ | refine s_read rfl rfl (rv_load rfl) h0 (part_agg T42 rfl rfl rfl) ?_
              first | refine s_pure rfl rfl (pv_idx T37 rfl T42 rfl rfl (by omega) (by omega) (rfl)) ?_ | refine s_pure rfl rfl (pv_idx_sl T37 rfl T42 rfl rfl (by omega) (by omega)) ?_
              refine s_putG rfl rfl (ev_store T42 rfl rfl (by intro vs h; cases h) hc rfl (by rw [hcs.len, List.length_map, List.length_range]; show 0 + (q : Int).toNat * 2 + 2 ≤ S * 2; omega) rfl) ?_
              intro A21 hn21 hg21 hk21
              have hcs' := hcs.set (k := q) (v := ((x.next.take k).map (con (wl nodes L) L q)).sum + con (wl nodes L) L q m) (nl := nlr) (cap := capr) (by simpa using hqS)
              rw [set_range] at hcs'
              have hfun : (List.range S).map (fun s => if s = q then ((x.next.take k).map (con (wl nodes L) L q)).sum + con (wl nodes L) L q m else if s < q then ((x.next.take (k + 1)).map (con (wl nodes L) L s)).sum else ((x.next.take k).map (con (wl nodes L) L s)).sum) = (List.range S).map (fun s => if s < q + 1 then ((x.next.take (k + 1)).map (con (wl nodes L) L s)).sum else ((x.next.take k).map (con (wl nodes L) L s)).sum) := by
                apply List.map_congr_left
                intro s hs
                by_cases e : s = q
                · subst e; rw [if_pos rfl, if_pos (by omega), take_sum hmk]
                · rw [if_neg e]
                  by_cases e2 : s < q
                  · rw [if_pos e2, if_pos (by omega)]
                  · rw [if_neg e2, if_neg (by omega)]
              rw [hfun] at hcs'
              have hg21' : A21.get A.next = some (.cells (setRange cs4 (q * 2) [.bool false, vU nlr capr (PB.dig WD (((x.next.take k).map (con (wl nodes L) L q)).sum + con (wl nodes L) L q m))])) := by
                rw [hg21, show 0 + (q : Int).toNat * ty42.size = q * 2 by show 0 + (q : Int).toNat * 2 = _; omega]; rfl
              replace h0 := hk21 _ _ (by omega) h0
              replace hO := hO.chg hk21 (by omega) (by omega)
              refine s_nil ?_
              refine AWp.region E_ok.ok ?_
              refine s_pure rfl rfl (pv_mov rfl) ?_
              refine s_pure rfl rfl (pv_add rfl rfl (by omega) (by omega)) ?_
              refine s_pure rfl rfl (pv_asg rfl) ?_
              refine s_nil ?_
              exact ⟨⟨(q + 1, _, A21), by dsimp only; omega, h0, hg21', hO, hcs', by dsimp only; omega⟩, by dsimp only; omega, Weak.frL rfl ⟨rfl, rfl, rfl, rfl, rfl, rfl, rfl, trivial⟩⟩
            · intro h18x2
              have hcon : con (wl nodes L) L q m = 0 := by rw [con, if_pos hL0, if_neg (by omega)]
              refine s_nil ?_
              refine AWp.cond (b := false) rfl (fun h => by cases h) (fun _ => ?_)
              refine AWp.skip ?_
              refine AWp.seq ?_
              refine AWp.fresh fun hfr => ?_
              refine AWp.drawq E_ok.ok (ord := [0, 1, 2, 3, 4, 9, 5, 6, 7, 8, 10, 11]) (by kernel_rfl) ?_
              refine q_pure rfl rfl rfl rfl (pv_mov rfl) ?_
              refine q_pure rfl rfl rfl rfl (pv_mov rfl) ?_
              first | refine q_pure rfl rfl rfl rfl (pv_idx T37 rfl T42 rfl rfl (by omega) (by omega) (rfl)) ?_ | refine q_pure rfl rfl rfl rfl (pv_idx_sl T37 rfl T42 rfl rfl (by omega) (by omega)) ?_
              refine q_read rfl rfl rfl rfl (rv_load rfl) hc (part_agg T42 rfl (show (cs4.drop (0 + (q : Int).toNat * ty42.size)).take ty42.size = [.bool false, vU nlo capo (PB.dig WD (((x.next.take k).map (con (wl nodes L) L q)).sum))] by rw [hdrop']; rfl) rfl) ?_
              first | refine q_imm rfl rfl rfl rfl (rv_loadi rfl (part_agg T42 rfl rfl rfl)) ?_ | refine q_read rfl rfl rfl rfl (rv_load rfl) hg15x2 (part_agg T42 rfl rfl rfl) ?_ | refine q_read rfl rfl rfl rfl (rv_load rfl) hg15x1 (part_agg T42 rfl rfl rfl) ?_ | refine q_read rfl rfl rfl rfl (rv_load rfl) hc (part_agg T42 rfl rfl rfl) ?_ | refine q_read rfl rfl rfl rfl (rv_load rfl) h0 (part_agg T42 rfl rfl rfl) ?_
              refine q_new rfl rfl rfl rfl (nv_alloc T42 rfl) ?_
              refine q_callpH rfl rfl rfl rfl (hfr _ (Nat.le_refl _)) (by kernel_rfl) rfl ⟨⟨_, rfl, by simp [noBlk, noBlks, vU, noBlks_U, ty42, setRange, aCells]⟩, ⟨_, rfl, by simp [noBlk, noBlks, vU, noBlks_U, ty42, setRange, aCells]⟩, trivial⟩ rfl
                (hadd (((x.next.take k).map (con (wl nodes L) L q)).sum) (con (wl nodes L) L q m) _ _ ⟨nlo, capo, rfl⟩ (by first | exact ⟨nly, capy2, by rw [hcon]; rfl⟩ | exact ⟨true, some 0, by rw [hcon, PB.dig_zero]; rfl⟩)
                  (by have := dig_small (Nat.le_trans hb1 (by decide)); omega) (by have := dig_small (Nat.le_trans hb2 (by decide)); omega) (by have := dig8_small (Nat.le_trans hb1 (by decide)); omega) (by have := dig8_small (Nat.le_trans hb2 (by decide)); omega) (by have := dig8_small (Nat.le_trans (Nat.add_le_add hb1 hb2) (by decide)); omega)) ?_
              rintro _ ⟨_, ⟨nlr, capr, rfl⟩, rfl⟩
              refine q_pure rfl rfl rfl rfl (pv_mov rfl) ?_
              refine q_pure rfl rfl rfl rfl (pv_ext rfl rfl) ?_
              refine q_pure rfl rfl rfl rfl (pv_ext rfl rfl) ?_
              refine q_storeH rfl rfl rfl rfl (by kernel_rfl) (by kernel_rfl) (ev_store T42 rfl rfl (by intro vs h; cases h) (AH.get_alloc_self _ _) rfl (by exact Nat.le_of_ble_eq_true rfl) rfl) ?_
              intro A20 hn20 hg20 hk20
              replace h0 := hk20 _ _ (by omega) h0
              replace hc := hk20 _ _ (by omega) hc
              replace hO := hO.grow hk20 (by omega)
              refine q_pure rfl rfl rfl rfl (pv_asg rfl) ?_
              first | refine q_nil0 ?_ | refine q_nil ?_
              refine AWp.region E_ok.ok ?_
              refine s_pure rfl rfl (pv_mov rfl) ?_
              refine s_pure rfl rfl (pv_mov rfl) ?_
              first | refine s_imm rfl rfl (rv_loadi rfl (part_agg T42 rfl rfl rfl)) ?_ | refine s_read rfl rfl (rv_load rfl) hg20 (part_agg T42 rfl rfl rfl) ?_ | refine s_read rfl rfl (rv_load rfl) hg15x2 (part_agg T42 rfl rfl rfl) ?_ | refine s_read rfl rfl (rv_load rfl) hg15x1 (part_agg T42 rfl rfl rfl) ?_ | refine s_read rfl rfl (rv_load rfl) hc (part_agg T42 rfl rfl rfl) ?_ | refine s_read rfl rfl (rv_load rfl) h0 (part_agg T42 rfl rfl rfl) ?_
              first | refine s_pure rfl rfl (pv_idx T37 rfl T42 rfl rfl (by omega) (by omega) (rfl)) ?_ | refine s_pure rfl rfl (pv_idx_sl T37 rfl T42 rfl rfl (by omega) (by omega)) ?_
              refine s_putG rfl rfl (ev_store T42 rfl rfl (by intro vs h; cases h) hc rfl (by rw [hcs.len, List.length_map, List.length_range]; show 0 + (q : Int).toNat * 2 + 2 ≤ S * 2; omega) rfl) ?_
              intro A21 hn21 hg21 hk21
              have hcs' := hcs.set (k := q) (v := ((x.next.take k).map (con (wl nodes L) L q)).sum + con (wl nodes L) L q m) (nl := nlr) (cap := capr) (by simpa using hqS)
              rw [set_range] at hcs'
              have hfun : (List.range S).map (fun s => if s = q then ((x.next.take k).map (con (wl nodes L) L q)).sum + con (wl nodes L) L q m else if s < q then ((x.next.take (k + 1)).map (con (wl nodes L) L s)).sum else ((x.next.take k).map (con (wl nodes L) L s)).sum) = (List.range S).map (fun s => if s < q + 1 then ((x.next.take (k + 1)).map (con (wl nodes L) L s)).sum else ((x.next.take k).map (con (wl nodes L) L s)).sum) := by
                apply List.map_congr_left
                intro s hs
                by_cases e : s = q
                · subst e; rw [if_pos rfl, if_pos (by omega), take_sum hmk]
                · rw [if_neg e]
                  by_cases e2 : s < q
                  · rw [if_pos e2, if_pos (by omega)]
                  · rw [if_neg e2, if_neg (by omega)]
              rw [hfun] at hcs'
              have hg21' : A21.get A.next = some (.cells (setRange cs4 (q * 2) [.bool false, vU nlr capr (PB.dig WD (((x.next.take k).map (con (wl nodes L) L q)).sum + con (wl nodes L) L q m))])) := by
                rw [hg21, show 0 + (q : Int).toNat * ty42.size = q * 2 by show 0 + (q : Int).toNat * 2 = _; omega]; rfl
              replace h0 := hk21 _ _ (by omega) h0
              replace hO := hO.chg hk21 (by omega) (by omega)
              refine s_nil ?_
              refine AWp.region E_ok.ok ?_
              refine s_pure rfl rfl (pv_mov rfl) ?_
              refine s_pure rfl rfl (pv_add rfl rfl (by omega) (by omega)) ?_
              refine s_pure rfl rfl (pv_asg rfl) ?_
              refine s_nil ?_
              exact ⟨⟨(q + 1, _, A21), by dsimp only; omega, h0, hg21', hO, hcs', by dsimp only; omega⟩, by dsimp only; omega, Weak.frL rfl ⟨rfl, rfl, rfl, rfl, rfl, rfl, rfl, trivial⟩⟩
        · intro h13x3
          refine s_nil ?_
          refine AWp.cond (b := false) rfl (fun h => by cases h) (fun _ => ?_)
          refine AWp.exit ?_
          refine AWp.region E_ok.ok ?_
          refine s_pure rfl rfl (pv_mov rfl) ?_
          refine s_pure rfl rfl (pv_add rfl rfl (by omega) (by omega)) ?_
          refine s_pure rfl rfl (pv_asg rfl) ?_
          refine s_nil ?_
          obtain rfl : q = S := by omega
          have hfin : (List.range q).map (fun s => if s < q then ((x.next.take (k + 1)).map (con (wl nodes L) L s)).sum else ((x.next.take k).map (con (wl nodes L) L s)).sum) = (List.range q).map (fun s => ((x.next.take (k + 1)).map (con (wl nodes L) L s)).sum) := by
            apply List.map_congr_left
            intro s hs
            rw [if_pos (List.mem_range.1 hs)]
          rw [hfin] at hcs
          exact ⟨⟨(k + 1, cs4, A4), by dsimp only; omega, h0, hc, hO, hcs, hn4⟩, by dsimp only; omega, Weak.frL rfl ⟨rfl, rfl, rfl, rfl, rfl, trivial⟩⟩
      · intro h9x3
        refine s_nil ?_
        refine AWp.cond (b := false) rfl (fun h => by cases h) (fun _ => ?_)
        refine AWp.exit ?_
        have hkS : x.next.take k = x.next := List.take_of_length_le (by omega)
        rw [hkS] at hcs
        have hfin : (List.range S).map (fun s => (x.next.map (con (wl nodes L) L s)).sum) = (List.range S).map (wl nodes x.level.toNat i) := by
          apply List.map_congr_left
          intro s hs
          rw [hL1, wl_succ hx]
        rw [hfin] at hcs
        refine AWp.freezeM (l := [(1, .ptr 0 0), (4, v), (5, .int .i64 i), (6, .vec false S (some S) cs2)]) hc (by rw [hcs.len]; simp) rfl ⟨.inl rfl, .inl rfl, .inl rfl, .inr ⟨rfl, rfl⟩, trivial⟩ ?_
        intro A8 hk8 hn8'
        replace h0 := hk8 _ _ (by omega) h0
        replace hO := hO.chg hk8 (by omega) (by omega)
        refine AWp.region E_ok.ok ?_
        refine s_pure rfl rfl (pv_mov rfl) ?_
        refine s_pure rfl rfl (pv_mov rfl) ?_
        refine s_newG rfl rfl (nv_bs T71 rfl T37 ⟨by decide, rfl⟩ rfl rfl rfl) ?_
        intro A22x2 hn22x2 hg22x2 hk22x2
        replace h0 := hk22x2 _ _ (by omega) h0
        replace hO := hO.grow hk22x2 (by omega)
        refine s_app rfl rfl (ev_app T71 rfl T37 hO rfl rfl hg22x2 rfl rfl rfl rfl (by show (2 * (_ + 1) + 192) * 24 ≤ 281474976710656; omega) (by omega)) ?_
        clear hO
        intro v22x3 A22x3 hO hk22x3 hn22x3
        first | replace h0 := hk22x3 _ _ (by omega) h0 | clear h0
        refine s_pure rfl rfl (pv_asg rfl) ?_
        refine s_nil ?_
        refine AWp.region E_ok.ok ?_
        refine s_pure rfl rfl (pv_mov rfl) ?_
        refine s_pure rfl rfl (pv_add rfl rfl (by omega) (by omega)) ?_
        refine s_pure rfl rfl (pv_asg rfl) ?_
        refine s_nil ?_
        have hO' : Own 1 1 _ A22x3 v22x3 (i + 1) (Ls ++ [.vec false S (some S) cs2]) := hO
        have hLl : Ls.length = i := by have := hO'.len; rw [List.length_append, List.length_singleton] at this; omega
        have hLs' : LsOk nodes S (i + 1) (Ls ++ [.vec false S (some S) cs2]) := by
          intro j y hj hy
          by_cases e : j = i
          · subst e
            rw [hx] at hy
            obtain rfl := Option.some.inj hy
            exact ⟨some S, cs2, by rw [List.getElem?_append_right (by omega), hLl, Nat.sub_self]; rfl, hcs⟩
          · obtain ⟨cap, cs, h1, h2⟩ := hLs j y (by omega) hy
            exact ⟨cap, cs, by rw [List.getElem?_append_left (by omega)]; exact h1, h2⟩
        exact ⟨⟨(i + 1, v22x3, Ls ++ [.vec false S (some S) cs2], A22x3), by dsimp only; omega, h0, hLs', _, hO'⟩, by dsimp only; omega, Weak.frL rfl ⟨rfl, rfl, rfl, trivial⟩⟩
    · intro h5x4
      refine s_nil ?_
      refine AWp.cond (b := false) rfl (fun h => by cases h) (fun _ => ?_)
      refine AWp.exit ?_
      obtain rfl : i = nodes.length := by omega
      obtain ⟨z, hz⟩ := get_some (show nodes.length - 1 < nodes.length by omega)
      have hzl := hTr z hz
      obtain ⟨capz, csz, hLz, hcsz⟩ := hLs (nodes.length - 1) z (by omega) hz
      rw [show z.level.toNat = hood.length by omega] at hcsz
      obtain ⟨βl, rfl, hβl, hlo, hhi⟩ := hO.pos (show 0 < nodes.length by omega)
      obtain ⟨nl0, cap0, rest0, hdrop0⟩ := hcsz.dropI (k := 0) (i := 0) rfl (get_range (show 0 < S by omega))
      have hz0 := hcle1 _ (List.mem_of_getElem? (get_range (g := wl nodes hood.length (nodes.length - 1)) (show 0 < S by omega)))
      refine AWp.seq ?_
      refine AWp.region E_ok.ok ?_
      refine s_pure rfl rfl (pv_mov rfl) ?_
      refine s_pure rfl rfl (pv_mov rfl) ?_
      first | refine s_pure rfl rfl (pv_len T71 rfl rfl) ?_ | refine s_pure rfl rfl (pv_len_sl T71 rfl rfl) ?_
      refine s_pure rfl rfl (pv_sub rfl rfl (by omega) (by omega)) ?_
      first | refine s_pure rfl rfl (pv_idx T71 rfl T37 rfl rfl (by omega) (by omega) (rfl)) ?_ | refine s_pure rfl rfl (pv_idx_sl T71 rfl T37 rfl rfl (by omega) (by omega)) ?_
      refine s_read rfl rfl (rv_load rfl) hβl (part_sc T37 rfl (show Ls[0 + ((nodes.length : Int) - 1).toNat * ty29.size]? = some _ by rw [show 0 + ((nodes.length : Int) - 1).toNat * ty29.size = nodes.length - 1 by show 0 + ((nodes.length : Int) - 1).toNat * 1 = _; omega]; exact hLz)) ?_
      refine s_pure rfl rfl (pv_asg rfl) ?_
      refine s_nil ?_
      refine AWp.seq ?_
      refine AWp.region E_ok.ok ?_
      refine s_pure rfl rfl (pv_asg rfl) ?_
      refine s_nil ?_
      refine AWp.seq ?_
      refine AWp.seq ?_
      refine AWp.region E_ok.ok ?_
      refine s_pure rfl rfl (pv_asg rfl) ?_
      refine s_nil ?_
      refine AWp.block ?_
      refine AWp.loop (σ := {s : Nat × Bool × AH // s.1 ≤ S ∧ s.2.2.get 0 = some (.cells [.int .i64 (S : Int), .vec hnl hood.length hcap (hood.flatMap encPt), .vec nnl nodes.length ncap (nodes.flatMap encNd)]) ∧
          (s.2.1 = true ↔ ∀ j, j < s.1 → wl nodes hood.length (nodes.length - 1) j = wl nodes hood.length (nodes.length - 1) 0)})
        (fun s => frL 112 [(1, .ptr 0 0), (13, .vec false S capz csz), (14, .bool s.1.2.1), (15, .int .i64 s.1.1)]) (fun s => s.1.2.2) (fun s => S - s.1.1)
        ⟨(0, true, A), Nat.zero_le _, h0, by simp⟩ (Weak.frL rfl ⟨rfl, rfl, rfl, rfl, trivial⟩) ?_
      clear h0 hO hβl
      rintro ⟨⟨q, b, A6⟩, hq, h0, hb⟩
      dsimp only at hq h0 hb ⊢
      refine AWp.seq ?_
      refine AWp.seq ?_
      refine AWp.region E_ok.ok ?_
      refine s_pure rfl rfl (pv_mov rfl) ?_
      first | refine s_pure rfl rfl (pv_fld T25 rfl rfl T3 (by decide) rfl) ?_ | refine s_pure rfl rfl (pv_fldi T25 rfl rfl T3 (by decide) rfl) ?_
      first | refine s_imm rfl rfl (rv_loadi rfl (part_sc T3 rfl rfl)) ?_ | refine s_read rfl rfl (rv_load rfl) h0 (part_sc T3 rfl rfl) ?_
      refine s_splitP rfl rfl (pv_int rfl rfl rfl) decide_eq_true_iff ?_ ?_
      · intro h26x3
        have hqq : (q : Int) = q := rfl
        have hqS : q < S := by omega
        obtain ⟨nlq, capq, restq, hdropq⟩ := hcsz.dropI hqq (get_range hqS)
        have hzq := hcle1 _ (List.mem_of_getElem? (get_range (g := wl nodes hood.length (nodes.length - 1)) hqS))
        refine s_nil ?_
        refine AWp.cond (b := true) rfl (fun _ => ?_) (fun h => by cases h)
        refine AWp.skip ?_
        refine AWp.seq ?_
        refine AWp.block ?_
        refine AWp.drawq E_ok.ok (ord := [0, 1, 2, 3, 4, 5, 6, 7, 8, 9, 10, 11, 12]) (by kernel_rfl) ?_
        rcases Bool.eq_false_or_eq_true b with rfl | rfl <;> refine q_pure rfl rfl rfl rfl (pv_mov rfl) ?_
        · skip
          refine q_pure rfl rfl rfl rfl (pv_mov rfl) ?_
          refine q_pure rfl rfl rfl rfl (pv_mov rfl) ?_
          refine q_pure rfl rfl rfl rfl (pv_mov rfl) ?_
          first | refine q_pure rfl rfl rfl rfl (pv_idx T37 rfl T42 rfl rfl (by omega) (by omega) (hdropq)) ?_ | refine q_pure rfl rfl rfl rfl (pv_idx_sl T37 rfl T42 rfl rfl (by omega) (by omega)) ?_
          first | refine q_imm rfl rfl rfl rfl (rv_loadi rfl (part_agg T42 rfl rfl rfl)) ?_ | refine q_read rfl rfl rfl rfl (rv_load rfl) h0 (part_agg T42 rfl rfl rfl) ?_
          refine q_pure rfl rfl rfl rfl (pv_mov rfl) ?_
          first | refine q_pure rfl rfl rfl rfl (pv_idx T37 rfl T42 rfl rfl (by omega) (by omega) (hdrop0)) ?_ | refine q_pure rfl rfl rfl rfl (pv_idx_sl T37 rfl T42 rfl rfl (by omega) (by omega)) ?_
          first | refine q_imm rfl rfl rfl rfl (rv_loadi rfl (part_agg T42 rfl rfl rfl)) ?_ | refine q_read rfl rfl rfl rfl (rv_load rfl) h0 (part_agg T42 rfl rfl rfl) ?_
          refine q_callp rfl rfl rfl rfl rfl (hcmp (wl nodes hood.length (nodes.length - 1) q) (wl nodes hood.length (nodes.length - 1) 0) _ _ ⟨nlq, capq, rfl⟩ ⟨nl0, cap0, rfl⟩ (by have := dig_small (Nat.le_trans hzq (by decide)); omega) (by have := dig_small (Nat.le_trans hz0 (by decide)); omega) (by have := dig8_small (Nat.le_trans hzq (by decide)); omega) (by have := dig8_small (Nat.le_trans hz0 (by decide)); omega)) ?_
          rintro _ rfl
          refine q_splitP rfl rfl rfl rfl (pv_int rfl rfl rfl) beq_iff_eq ?_ ?_
          · intro h28x10
            first | refine q_pure rfl rfl rfl rfl (pv_pickT rfl rfl) ?_ | refine q_pure rfl rfl rfl rfl (pv_pickF rfl rfl) ?_
            refine q_pure rfl rfl rfl rfl (pv_asg rfl) ?_
            first | refine q_nil0 ?_ | refine q_nil ?_
            refine AWp.region E_ok.ok ?_
            refine s_pure rfl rfl (pv_mov rfl) ?_
            refine s_pure rfl rfl (pv_add rfl rfl (by omega) (by omega)) ?_
            refine s_pure rfl rfl (pv_asg rfl) ?_
            refine s_nil ?_
            first
              | exact ⟨⟨(q + 1, true, A6), by dsimp only; omega, h0, by
                  refine ⟨fun _ j hj => ?_, fun _ => rfl⟩
                  by_cases e : j = q
                  · subst e; exact Classical.not_not.1 (fun h => (cmpI_ne.2 h) h28x10)
                  · exact hb.1 rfl j (by dsimp only at hj; omega)⟩, by dsimp only; omega, Weak.frL rfl ⟨rfl, rfl, rfl, rfl, trivial⟩⟩
              | exact ⟨⟨(q + 1, false, A6), by dsimp only; omega, h0, by
                  refine ⟨fun h => (by cases h), fun h => ?_⟩
                  first
                    | exact hb.2 fun j hj => h j (by dsimp only; omega)
                    | exact absurd (h q (by dsimp only; omega)) (cmpI_ne.1 h28x10)⟩, by dsimp only; omega, Weak.frL rfl ⟨rfl, rfl, rfl, rfl, trivial⟩⟩
          · intro h28x10
            first | refine q_pure rfl rfl rfl rfl (pv_pickT rfl rfl) ?_ | refine q_pure rfl rfl rfl rfl (pv_pickF rfl rfl) ?_
            refine q_pure rfl rfl rfl rfl (pv_asg rfl) ?_
            first | refine q_nil0 ?_ | refine q_nil ?_
            refine AWp.region E_ok.ok ?_
            refine s_pure rfl rfl (pv_mov rfl) ?_
            refine s_pure rfl rfl (pv_add rfl rfl (by omega) (by omega)) ?_
            refine s_pure rfl rfl (pv_asg rfl) ?_
            refine s_nil ?_
            first
              | exact ⟨⟨(q + 1, true, A6), by dsimp only; omega, h0, by
                  refine ⟨fun _ j hj => ?_, fun _ => rfl⟩
                  by_cases e : j = q
                  · subst e; exact Classical.not_not.1 (fun h => (cmpI_ne.2 h) h28x10)
                  · exact hb.1 rfl j (by dsimp only at hj; omega)⟩, by dsimp only; omega, Weak.frL rfl ⟨rfl, rfl, rfl, rfl, trivial⟩⟩
              | exact ⟨⟨(q + 1, false, A6), by dsimp only; omega, h0, by
                  refine ⟨fun h => (by cases h), fun h => ?_⟩
                  first
                    | exact hb.2 fun j hj => h j (by dsimp only; omega)
                    | exact absurd (h q (by dsimp only; omega)) (cmpI_ne.1 h28x10)⟩, by dsimp only; omega, Weak.frL rfl ⟨rfl, rfl, rfl, rfl, trivial⟩⟩
        · skip
          refine q_pure rfl rfl rfl rfl (pv_mov rfl) ?_
          refine q_skip rfl rfl rfl ?_
          refine q_skip rfl rfl rfl ?_
          refine q_skip rfl rfl rfl ?_
          refine q_skip rfl rfl rfl ?_
          refine q_skip rfl rfl rfl ?_
          refine q_skip rfl rfl rfl ?_
          refine q_skip rfl rfl rfl ?_
          refine q_skip rfl rfl rfl ?_
          refine q_skip rfl rfl rfl ?_
          first | refine q_pure rfl rfl rfl rfl (pv_pickT rfl rfl) ?_ | refine q_pure rfl rfl rfl rfl (pv_pickF rfl rfl) ?_
          refine q_pure rfl rfl rfl rfl (pv_asg rfl) ?_
          first | refine q_nil0 ?_ | refine q_nil ?_
          refine AWp.region E_ok.ok ?_
          refine s_pure rfl rfl (pv_mov rfl) ?_
          refine s_pure rfl rfl (pv_add rfl rfl (by omega) (by omega)) ?_
          refine s_pure rfl rfl (pv_asg rfl) ?_
          refine s_nil ?_
          first
            | exact ⟨⟨(q + 1, true, A6), by dsimp only; omega, h0, by
                refine ⟨fun _ j hj => ?_, fun _ => rfl⟩
                by_cases e : j = q
                · subst e; exact Classical.not_not.1 (fun h => (cmpI_ne.2 h) h28x10)
                · exact hb.1 rfl j (by dsimp only at hj; omega)⟩, by dsimp only; omega, Weak.frL rfl ⟨rfl, rfl, rfl, rfl, trivial⟩⟩
            | exact ⟨⟨(q + 1, false, A6), by dsimp only; omega, h0, by
                refine ⟨fun h => (by cases h), fun h => ?_⟩
                first
                  | exact hb.2 fun j hj => h j (by dsimp only; omega)
                  | exact absurd (h q (by dsimp only; omega)) (cmpI_ne.1 h28x10)⟩, by dsimp only; omega, Weak.frL rfl ⟨rfl, rfl, rfl, rfl, trivial⟩⟩
      · intro h26x3
        refine s_nil ?_
        refine AWp.cond (b := false) rfl (fun h => by cases h) (fun _ => ?_)
        refine AWp.exit ?_
        refine AWp.seq ?_
        refine AWp.region E_ok.ok ?_
        refine s_pure rfl rfl (pv_mov rfl) ?_
        refine s_pure rfl rfl (pv_mov rfl) ?_
        refine s_pure rfl rfl (pv_asg rfl) ?_
        refine s_pure rfl rfl (pv_asg rfl) ?_
        refine s_nil ?_
        refine AWp.ret ?_
        have hbb : b = !(tb (∃ v ∈ (List.range S).map (wl nodes hood.length (nodes.length - 1)), v ≠ wl nodes hood.length (nodes.length - 1) 0)) := by
          cases hbv : b with
          | true =>
            rw [tb_false]; rfl
            rintro ⟨v, hv, hne⟩
            obtain ⟨s, hs, rfl⟩ := List.mem_map.1 hv
            exact hne (hb.1 hbv s (by have := List.mem_range.1 hs; omega))
          | false =>
            rw [tb_true]; rfl
            refine Classical.byContradiction fun h => ?_
            have : b = true := hb.2 fun j hj => Classical.byContradiction fun hne => h ⟨_, List.mem_map.2 ⟨j, List.mem_range.2 (by omega), rfl⟩, hne⟩
            rw [hbv] at this; cases this
        refine leaf_ok rfl (by simp [noBlk, noBlks, hcsz.noBlks]) (.inr ⟨hT, capz, csz, ?_, ?_⟩)
        · dsimp only [cnts]; rw [hSt]; exact hcsz
        · dsimp only [cnts]; rw [hSt, ← hbb]
  · skip
    refine s_pure rfl rfl (pv_un rfl rfl) ?_
    refine s_nil ?_
    refine AWp.cond (b := true) rfl (fun _ => ?_) (fun h => by cases h)
    refine AWp.seq ?_
    refine AWp.region E_ok.ok ?_
    refine s_pure rfl rfl (pv_asg rfl) ?_
    refine s_pure rfl rfl (pv_asg rfl) ?_
    refine s_nil ?_
    refine AWp.ret ?_
    exact leaf_ok rfl rfl (.inl ⟨fun h => (by rw [tb_true h] at hok; cases hok), rfl⟩)
end Go.Am.Seat

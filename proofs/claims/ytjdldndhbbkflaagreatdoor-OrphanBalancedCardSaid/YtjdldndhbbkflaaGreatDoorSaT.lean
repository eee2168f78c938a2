/- A part of the proof about cellularlaw49.OrphanBalanced: lemmas only; what they say is theirs alone and no condition of the claim. -/
import Derived.Test.YtjdldndhbbkflaaGreatDoorSaR
import Derived.Test.YtjdldndhbbkflaaGreatDoorAmFx3
set_option autoImplicit false
set_option linter.unusedVariables false
set_option linter.unusedSimpArgs false
set_option maxRecDepth 100000
noncomputable section
namespace Go.Am.Seat
open Go Go.Am Go.Proofs
/-! ## the sum of all ways -/
theorem sum_range_zero (S : Nat) : ((List.range S).map fun _ => 0).sum = 0 := by
  induction S with
  | zero => rfl
  | succ n ih => rw [List.range_succ, List.map_append, List.sum_append, ih]; rfl
theorem sum_range_add (S : Nat) (f g : Nat → Nat) : ((List.range S).map fun s => f s + g s).sum = ((List.range S).map f).sum + ((List.range S).map g).sum := by
  induction S with
  | zero => rfl
  | succ n ih => simp only [List.range_succ, List.map_append, List.sum_append, ih, List.map_cons, List.map_nil, List.sum_cons, List.sum_nil]; omega
theorem sum_range_hit (S m : Nat) (h : m < S) : ((List.range S).map fun s : Nat => if (m : Int) = (s : Int) then 1 else 0).sum = 1 := by
  induction S with
  | zero => omega
  | succ n ih =>
    rw [List.range_succ, List.map_append, List.sum_append]
    by_cases e : m = n
    · subst e
      have : ((List.range m).map fun s : Nat => if (m : Int) = (s : Int) then 1 else 0) = (List.range m).map fun _ => 0 := by
        apply List.map_congr_left
        intro s hs
        have := List.mem_range.1 hs
        rw [if_neg (by omega)]
      rw [this, sum_range_zero]
      simp
    · rw [ih (by omega)]
      simp [show ¬ (m : Int) = (n : Int) by omega]
theorem sum_swap (S b : Nat) (l : List Int) (f : Nat → Int → Nat) (h : ∀ k ∈ l, ((List.range S).map fun s => f s k).sum = b) : ((List.range S).map fun s => (l.map (f s)).sum).sum = l.length * b := by
  induction l with
  | nil => simp only [List.map_nil, List.sum_nil, List.length_nil, Nat.zero_mul]; exact sum_range_zero S
  | cons a l ih =>
    simp only [List.map_cons, List.sum_cons, List.length_cons]
    rw [sum_range_add, h a List.mem_cons_self, ih fun k hk => h k (List.mem_cons_of_mem _ hk), Nat.add_mul, Nat.one_mul, Nat.add_comm]
theorem wl_sum {t : Tr} (h : TreeOk t) {S : Nat} (hS : t.states = S) : ∀ (L i : Nat) (x : Nd), t.nodes.l[i]? = some x → x.level = L → ((List.range S).map (wl t.nodes.l L i)).sum = S ^ L
  | 0, i, x, hx, hl => by have := (h.node i x hx).1; omega
  | L + 1, i, x, hx, hl => by
    obtain ⟨N1, N2, N3, N4⟩ := h.node i x hx
    have : (List.range S).map (wl t.nodes.l (L + 1) i) = (List.range S).map fun s => (x.next.map (con (wl t.nodes.l L) L s)).sum := by
      apply List.map_congr_left
      intro s _
      exact wl_succ hx
    rw [this, sum_swap S (S ^ L) x.next (fun s k => con (wl t.nodes.l L) L s k), Nat.pow_succ, Nat.mul_comm, show x.next.length = S by omega]
    intro k hk
    obtain ⟨s0, hs0⟩ := List.getElem?_of_mem hk
    obtain ⟨M1, M2, M3⟩ := N4 s0 k hs0
    by_cases hL : L = 0
    · subst hL
      have hk := M2 (by omega)
      obtain ⟨m, rfl⟩ : ∃ m : Nat, k = m := ⟨k.toNat, by omega⟩
      rw [Nat.pow_zero, ← sum_range_hit S m (by omega)]
      rfl
    · obtain ⟨m1, m2⟩ := M3 (by omega)
      obtain ⟨y, hy⟩ := get_some (show k.toNat < t.nodes.l.length by have := (List.getElem?_eq_some_iff.1 hx).1; omega)
      have e : (List.range S).map (fun s => con (wl t.nodes.l L) L s k) = (List.range S).map (wl t.nodes.l L k.toNat) := by
        apply List.map_congr_left
        intro s _
        rw [con, if_neg hL]
      rw [e]
      exact wl_sum h hS L k.toNat y hy (by have := m2 y hy; omega)
theorem cnts_sum {t : Tr} (h : TreeOk t) : (cnts t).sum = t.states.toNat ^ t.hood.l.length := by
  have h1 := h.size
  have h2 := h.states
  obtain ⟨z, hz⟩ := get_some (show t.nodes.l.length - 1 < t.nodes.l.length by omega)
  exact wl_sum h (by omega) _ _ z hz (h.root z hz)
/-- what both answer -/
noncomputable def vsO (t : Tr) : List Nat := match tb (TreeOk t) with | true => cnts t | false => []
theorem BalPost.get {t : Tr} {r : AV} (h : BalPost t r) : ∃ nl cap cs, IsBs (vsO t) cs ∧ r = .tuple [.bool (match tb (TreeOk t) with | true => !(tb (∃ v ∈ cnts t, v ≠ wl t.nodes.l t.hood.l.length (t.nodes.l.length - 1) 0)) | false => false), .vec nl (vsO t).length cap cs] := by
  rcases h with ⟨h, rfl⟩ | ⟨h, cap, cs, hb, rfl⟩
  · unfold vsO; rw [tb_false h]; exact ⟨true, some 0, [], rfl, rfl⟩
  · have e : t.states.toNat = (cnts t).length := by simp [cnts]
    unfold vsO; rw [tb_true h, e]; exact ⟨false, cap, cs, hb, rfl⟩
theorem vsO_law (t : Tr) : ∃ vs b, (∀ r, BalPost t r → ∃ nl cap cs, IsBs vs cs ∧ r = .tuple [.bool b, .vec nl vs.length cap cs]) ∧ (∀ v ∈ vs, v ≤ 8 ^ 25) ∧ vs.length ≤ 8 ∧
    (vs.length = 0 → ¬ TreeOk t) ∧ (0 < vs.length → TreeOk t ∧ vs.sum = t.states.toNat ^ t.hood.l.length) := by
  refine ⟨vsO t, _, fun r h => h.get, ?_⟩
  unfold vsO
  by_cases h : TreeOk t
  · have h2 := h.states
    have e : (cnts t).length = t.states.toNat := by simp [cnts]
    rw [tb_true h]
    dsimp only
    exact ⟨cnts_le h, by omega, fun h0 => (by omega), fun _ => ⟨h, cnts_sum h⟩⟩
  · rw [tb_false h]
    exact ⟨fun v hv => (by cases hv), Nat.zero_le _, fun _ => h, fun h0 => absurd h0 (Nat.lt_irrefl 0)⟩
theorem take_sumN {l : List Nat} {j m : Nat} (h : l[j]? = some m) : (l.take (j + 1)).sum = (l.take j).sum + m := by
  rw [List.take_add_one, h]; simp
theorem take_leN (l : List Nat) (j b : Nat) (h : ∀ v ∈ l, v ≤ b) : (l.take j).sum ≤ l.length * b := by
  induction l generalizing j with
  | nil => simp
  | cons a l ih =>
    cases j with
    | zero => simp
    | succ j =>
      have := ih j fun v hv => h v (List.mem_cons_of_mem _ hv)
      have h2 := h a List.mem_cons_self
      simp only [List.take_succ_cons, List.sum_cons, List.length_cons, Nat.add_mul, Nat.one_mul]; omega
theorem cmpI_self (a : Nat) : cmpI a a = 0 := Classical.byContradiction fun h => cmpI_ne.1 h rfl
theorem pv_neqb (b : Bool) {ρ : Operand → Option AV} {x y : Operand} {t' : TypeId} (hx : ρ x = some (.bool b)) (hy : ρ y = some (.bool b)) : pureOp E.C ρ (.binOp .neq 4 x y t') = some (.bool false) := by
  cases b <;> exact pv_bin hx hy (by kernel_rfl)
theorem card_ok (t : Tr) (hw : t.Wf) : PureR E.C 4 [t.av] (fun r => r = .bool true) := by
  refine PureR.of_empty plain t.noBlks ?_
  have hb1 := balanced_ok t hw
  have hb2 := balancedR_ok t hw
  have hfew := few_ok t hw
  have hright := rightR_ok t hw
  obtain ⟨vs, b, hpost, hle, hlen, hno, hyes⟩ := vsO_law t
  have haw : PureR E.C 6 [] (fun r => r = .bool true) := fun A => (fx57 A).mono fun r A' ⟨a, b⟩ => ⟨b, a⟩
  have hfrom := fromR_ok
  have hadd := addR_ok
  have hmul := mulR_ok
  have hbr := bigRightR_ok
  have hcmp : ∀ (a : Nat) (ra rb : AV), a ≤ 8 ^ 26 → IsB a ra → IsB a rb → PureR E.C 15 [ra, rb] (fun r => r = .int .i64 0) := by
    intro a ra rb ha h1 h2
    have d1 := dig_small ha
    have d2 := dig8_small ha
    refine (compareR_ok a a ra rb h1 h2 (by omega) (by omega) (by omega) (by omega)).mono ?_
    rintro _ rfl
    rw [cmpI_self]
  have hsmall : ∀ a, a ≤ 8 ^ 26 → (PB.dig WD a).length ≤ 64 ∧ (PB.dig 256 a).length ≤ 100 := fun a ha => by
    have d1 := dig_small ha
    have d2 := dig8_small ha
    exact ⟨by omega, by omega⟩
  obtain ⟨st, ⟨hnl, hcap, hood⟩, ⟨nnl, ncap, nodes⟩⟩ := t
  have hw0 := hw.states
  dsimp only [Tr.av, Tr.cells, Sl.av] at hright hyes hw0 hb1 hb2 hfew ⊢
  refine ACall.of_body E_ok.ok Tryz.func4 rfl (by kernel_rfl) ?_
  have hn00 : AH.empty.next = 0 := rfl
  refine AWp.seq ?_
  refine AWp.region E_ok.ok ?_
  refine s_newG rfl rfl (nv_box rfl rfl) ?_
  intro A0x0 hn0x0 hg0x0 hk0x0
  refine s_pure rfl rfl (pv_asg rfl) ?_
  refine s_nil ?_
  refine AWp.seq ?_
  refine AWp.seq ?_
  refine AWp.region E_ok.ok ?_
  first | refine s_imm rfl rfl (rv_loadi rfl (part_agg T25 rfl rfl rfl)) ?_ | refine s_read rfl rfl (rv_load rfl) hg0x0 (part_agg T25 rfl rfl rfl) ?_
  refine s_callp rfl rfl rfl hfew ?_
  intro r hr
  rcases bool_split hr with ⟨rfl, hok⟩ | ⟨rfl, hok⟩
  · skip
    refine s_pure rfl rfl (pv_un rfl rfl) ?_
    refine s_nil ?_
    refine AWp.cond (b := false) rfl (fun h => by cases h) (fun _ => ?_)
    refine AWp.skip ?_
    refine AWp.seq ?_
    refine AWp.region E_ok.ok ?_
    first | refine s_imm rfl rfl (rv_loadi rfl (part_agg T25 rfl rfl rfl)) ?_ | refine s_read rfl rfl (rv_load rfl) hg0x0 (part_agg T25 rfl rfl rfl) ?_
    refine s_callp rfl rfl rfl hb1 ?_
    intro r hr
    obtain ⟨nll, capl, csl, hcsl, rfl⟩ := hpost r hr
    refine s_pure rfl rfl (pv_mov rfl) ?_
    refine s_pure rfl rfl (pv_ext rfl rfl) ?_
    refine s_pure rfl rfl (pv_ext rfl rfl) ?_
    refine s_pure rfl rfl (pv_asg rfl) ?_
    refine s_pure rfl rfl (pv_asg rfl) ?_
    refine s_nil ?_
    refine AWp.seq ?_
    refine AWp.region E_ok.ok ?_
    first | refine s_imm rfl rfl (rv_loadi rfl (part_agg T25 rfl rfl rfl)) ?_ | refine s_read rfl rfl (rv_load rfl) hg0x0 (part_agg T25 rfl rfl rfl) ?_
    refine s_callp rfl rfl rfl hb2 ?_
    intro r hr2
    obtain ⟨nlm, capm, csm, hcsm, rfl⟩ := hpost r hr2
    refine s_pure rfl rfl (pv_mov rfl) ?_
    refine s_pure rfl rfl (pv_ext rfl rfl) ?_
    refine s_pure rfl rfl (pv_ext rfl rfl) ?_
    refine s_pure rfl rfl (pv_asg rfl) ?_
    refine s_pure rfl rfl (pv_asg rfl) ?_
    refine s_nil ?_
    refine AWp.seq ?_
    refine AWp.seq ?_
    refine AWp.region E_ok.ok ?_
    refine s_pure rfl rfl (pv_mov rfl) ?_
    refine s_pure rfl rfl (pv_mov rfl) ?_
    refine s_pure rfl rfl (pv_neqb b rfl rfl) ?_
    refine s_pure rfl rfl (pv_mov rfl) ?_
    refine s_pure rfl rfl (pv_mov rfl) ?_
    first | refine s_pure rfl rfl (pv_len T37 rfl rfl) ?_ | refine s_pure rfl rfl (pv_len_sl T37 rfl rfl) ?_
    refine s_pure rfl rfl (pv_mov rfl) ?_
    first | refine s_pure rfl rfl (pv_len T37 rfl rfl) ?_ | refine s_pure rfl rfl (pv_len_sl T37 rfl rfl) ?_
    refine s_splitP rfl rfl (pv_int rfl rfl rfl) bne_iff_ne ?_ ?_
    · intro h5x8
      omega
      --
    · intro h5x8
      first | refine s_pure rfl rfl (pv_pickT rfl rfl) ?_ | refine s_pure rfl rfl (pv_pickF rfl rfl) ?_
      refine s_nil ?_
      refine AWp.cond (b := false) rfl (fun h => by cases h) (fun _ => ?_)
      refine AWp.skip ?_
      refine AWp.seq ?_
      refine AWp.region E_ok.ok ?_
      refine s_callp rfl rfl rfl (hfrom 0 (by decide)) ?_
      rintro _ ⟨nls, caps, rfl⟩
      refine s_newG rfl rfl (nv_alloc T42 rfl) ?_
      intro A7x1 hn7x1 hg7x1 hk7x1
      replace hg0x0 := hk7x1 _ _ (by omega) hg0x0
      first | refine s_putG rfl rfl (ev_store T42 rfl rfl (by intro vs h; cases h) (hg7x1) rfl (by first | exact Nat.le_of_ble_eq_true rfl | (simp; omega)) rfl) ?_ | refine s_putG rfl rfl (ev_store T42 rfl rfl (by intro vs h; cases h) (hg0x0) rfl (by first | exact Nat.le_of_ble_eq_true rfl | (simp; omega)) rfl) ?_
      intro A7x2 hn7x2 hg7x2 hk7x2
      first | replace hg0x0 := hk7x2 _ _ (by omega) hg0x0 | skip
      first | replace hg7x1 := hk7x2 _ _ (by omega) hg7x1 | skip
      refine s_nil ?_
      refine AWp.seq ?_
      refine AWp.seq ?_
      refine AWp.region E_ok.ok ?_
      refine s_pure rfl rfl (pv_mov rfl) ?_
      first | refine s_pure rfl rfl (pv_len T37 rfl rfl) ?_ | refine s_pure rfl rfl (pv_len_sl T37 rfl rfl) ?_
      refine s_pure rfl rfl (pv_mov rfl) ?_
      refine s_nil ?_
      refine AWp.block ?_
      have hn1 : A0x0.next = 1 := by omega
      rw [hn00] at hg0x0
      rw [hn1] at hg7x2
      refine AWp.loop (σ := {s : Nat × AV × AH // s.1 ≤ vs.length ∧ s.2.2.get 0 = some (.cells [.int .i64 st, .vec hnl hood.length hcap (hood.flatMap encPt), .vec nnl nodes.length ncap (nodes.flatMap encNd)]) ∧ s.2.2.get 1 = some (.cells [.bool false, s.2.1]) ∧ 1 < s.2.2.next ∧ ∃ nl cap, s.2.1 = vU nl cap (PB.dig WD ((vs.take s.1).sum))})
        (fun s => frL 105 [(1, .ptr 0 0), (4, .vec nll vs.length capl csl), (6, .vec nlm vs.length capm csm), (7, .ptr 1 0), (40, .int .i64 vs.length), (41, .int .i64 s.1.1)]) (fun s => s.1.2.2) (fun s => vs.length - s.1.1)
        ⟨(0, vU nls caps (PB.dig WD 0), A7x2), Nat.zero_le _, hg0x0, hg7x2, by dsimp only; omega, nls, caps, rfl⟩ (Weak.frL rfl ⟨(by show some (AV.ptr AH.empty.next 0) = _; rw [hn00]), rfl, rfl, (by show some (AV.ptr A0x0.next 0) = _; rw [hn1]), rfl, rfl, trivial⟩) ?_
      rintro ⟨⟨k, w, A⟩, hk, h0, h1, hn, nlw, capw, hwe⟩
      dsimp only at hk h0 h1 hn hwe ⊢
      subst hwe
      refine AWp.seq ?_
      refine AWp.region E_ok.ok ?_
      refine s_splitP rfl rfl (pv_int rfl rfl rfl) decide_eq_true_iff ?_ ?_
      · intro h9x0
        have hkk : (k : Int) = k := rfl
        obtain ⟨v, hv⟩ := get_some (show k < vs.length by omega)
        have hvle := hle v (List.mem_of_getElem? hv)
        have hv26 : v ≤ 8 ^ 26 := Nat.le_trans hvle (by decide)
        obtain ⟨nl1, cap1, rest1, hdrop1⟩ := hcsl.dropI hkk hv
        obtain ⟨nl2, cap2, rest2, hdrop2⟩ := hcsm.dropI hkk hv
        have hs1 : (vs.take k).sum ≤ 8 ^ 26 := Nat.le_trans (take_leN vs k _ hle) (Nat.le_trans (Nat.mul_le_mul_right _ hlen) (by decide))
        have hs2 : (vs.take k).sum + v ≤ 8 ^ 26 := by rw [← take_sumN hv]; exact Nat.le_trans (take_leN vs _ _ hle) (Nat.le_trans (Nat.mul_le_mul_right _ hlen) (by decide))
        refine s_nil ?_
        refine AWp.seq ?_
        refine AWp.cond (b := true) rfl (fun _ => ?_) (fun h => by cases h)
        refine AWp.skip ?_
        refine AWp.seq ?_
        refine AWp.block ?_
        refine AWp.seq ?_
        refine AWp.region E_ok.ok ?_
        refine s_pure rfl rfl (pv_mov rfl) ?_
        refine s_pure rfl rfl (pv_asg rfl) ?_
        refine s_nil ?_
        refine AWp.seq ?_
        refine AWp.seq ?_
        refine AWp.drawq E_ok.ok (ord := [0, 1, 2, 3, 4, 5, 6, 7, 8, 9, 10, 11, 12, 13, 14, 15, 16, 17]) (by kernel_rfl) ?_
        refine q_pure rfl rfl rfl rfl (pv_mov rfl) ?_
        refine q_pure rfl rfl rfl rfl (pv_mov rfl) ?_
        first | refine q_pure rfl rfl rfl rfl (pv_idx T37 rfl T42 rfl rfl (by omega) (by omega) (hdrop1)) ?_ | refine q_pure rfl rfl rfl rfl (pv_idx_sl T37 rfl T42 rfl rfl (by omega) (by omega)) ?_
        first | refine q_imm rfl rfl rfl rfl (rv_loadi rfl (part_agg T42 rfl rfl rfl)) ?_ | refine q_read rfl rfl rfl rfl (rv_load rfl) h1 (part_agg T42 rfl rfl rfl) ?_ | refine q_read rfl rfl rfl rfl (rv_load rfl) h0 (part_agg T42 rfl rfl rfl) ?_
        refine q_pure rfl rfl rfl rfl (pv_mov rfl) ?_
        refine q_pure rfl rfl rfl rfl (pv_mov rfl) ?_
        first | refine q_pure rfl rfl rfl rfl (pv_idx T37 rfl T42 rfl rfl (by omega) (by omega) (hdrop2)) ?_ | refine q_pure rfl rfl rfl rfl (pv_idx_sl T37 rfl T42 rfl rfl (by omega) (by omega)) ?_
        first | refine q_imm rfl rfl rfl rfl (rv_loadi rfl (part_agg T42 rfl rfl rfl)) ?_ | refine q_read rfl rfl rfl rfl (rv_load rfl) h1 (part_agg T42 rfl rfl rfl) ?_ | refine q_read rfl rfl rfl rfl (rv_load rfl) h0 (part_agg T42 rfl rfl rfl) ?_
        refine q_callp rfl rfl rfl rfl rfl (hcmp v _ _ hv26 ⟨nl1, cap1, rfl⟩ ⟨nl2, cap2, rfl⟩) ?_
        rintro _ rfl
        refine q_splitP rfl rfl rfl rfl (pv_int rfl rfl rfl) bne_iff_ne ?_ ?_
        · intro h11x9
          omega
          --
        · intro h11x9
          refine q_pure rfl rfl rfl rfl (pv_mov rfl) ?_
          refine q_pure rfl rfl rfl rfl (pv_mov rfl) ?_
          refine q_pure rfl rfl rfl rfl (pv_mov rfl) ?_
          first | refine q_pure rfl rfl rfl rfl (pv_idx T37 rfl T42 rfl rfl (by omega) (by omega) (hdrop1)) ?_ | refine q_pure rfl rfl rfl rfl (pv_idx_sl T37 rfl T42 rfl rfl (by omega) (by omega)) ?_
          first | refine q_imm rfl rfl rfl rfl (rv_loadi rfl (part_agg T42 rfl rfl rfl)) ?_ | refine q_read rfl rfl rfl rfl (rv_load rfl) h1 (part_agg T42 rfl rfl rfl) ?_ | refine q_read rfl rfl rfl rfl (rv_load rfl) h0 (part_agg T42 rfl rfl rfl) ?_
          refine q_callp rfl rfl rfl rfl rfl (hbr _ _ ⟨nl1, cap1, rfl⟩ (PB.trimZ_dig wd2 v) (hsmall v hv26).1) ?_
          rintro _ rfl
          refine q_pure rfl rfl rfl rfl (pv_un rfl rfl) ?_
          first | refine q_pure rfl rfl rfl rfl (pv_pickT rfl rfl) ?_ | refine q_pure rfl rfl rfl rfl (pv_pickF rfl rfl) ?_
          first | refine q_nil0 ?_ | refine q_nil ?_
          refine AWp.cond (b := false) rfl (fun h => by cases h) (fun _ => ?_)
          refine AWp.skip ?_
          refine AWp.seq ?_
          refine AWp.fresh fun hfr => ?_
          refine AWp.drawq E_ok.ok (ord := [0, 1, 2, 3, 4, 9, 5, 6, 7, 8, 10, 11]) (by kernel_rfl) ?_
          first | refine q_imm rfl rfl rfl rfl (rv_loadi rfl (part_agg T42 rfl rfl rfl)) ?_ | refine q_read rfl rfl rfl rfl (rv_load rfl) h1 (part_agg T42 rfl rfl rfl) ?_ | refine q_read rfl rfl rfl rfl (rv_load rfl) h0 (part_agg T42 rfl rfl rfl) ?_
          refine q_pure rfl rfl rfl rfl (pv_mov rfl) ?_
          refine q_pure rfl rfl rfl rfl (pv_mov rfl) ?_
          first | refine q_pure rfl rfl rfl rfl (pv_idx T37 rfl T42 rfl rfl (by omega) (by omega) (hdrop1)) ?_ | refine q_pure rfl rfl rfl rfl (pv_idx_sl T37 rfl T42 rfl rfl (by omega) (by omega)) ?_
          first | refine q_imm rfl rfl rfl rfl (rv_loadi rfl (part_agg T42 rfl rfl rfl)) ?_ | refine q_read rfl rfl rfl rfl (rv_load rfl) h1 (part_agg T42 rfl rfl rfl) ?_ | refine q_read rfl rfl rfl rfl (rv_load rfl) h0 (part_agg T42 rfl rfl rfl) ?_
          refine q_new rfl rfl rfl rfl (nv_alloc T42 rfl) ?_
          refine q_callpH rfl rfl rfl rfl (hfr _ (Nat.le_refl _)) (by kernel_rfl) rfl ⟨⟨_, rfl, by simp [noBlk, noBlks, vU, noBlks_U, ty42, setRange, aCells]⟩, ⟨_, rfl, by simp [noBlk, noBlks, vU, noBlks_U, ty42, setRange, aCells]⟩, trivial⟩ rfl
            (hadd (vs.take k).sum v _ _ ⟨nlw, capw, rfl⟩ ⟨nl1, cap1, rfl⟩ (hsmall _ hs1).1 (hsmall _ hv26).1 (by have := (hsmall _ hs1).2; omega) (by have := (hsmall _ hv26).2; omega) (by have := (hsmall _ hs2).2; omega)) ?_
          rintro _ ⟨_, ⟨nlr, capr, rfl⟩, rfl⟩
          refine q_pure rfl rfl rfl rfl (pv_mov rfl) ?_
          refine q_pure rfl rfl rfl rfl (pv_ext rfl rfl) ?_
          refine q_pure rfl rfl rfl rfl (pv_ext rfl rfl) ?_
          refine q_storeH rfl rfl rfl rfl (by kernel_rfl) (by kernel_rfl) (ev_store T42 rfl rfl (by intro vs h; cases h) (AH.get_alloc_self _ _) rfl (by exact Nat.le_of_ble_eq_true rfl) rfl) ?_
          intro A13 hn13 hg13 hk13
          replace h0 := hk13 _ _ (by omega) h0
          replace h1 := hk13 _ _ (by omega) h1
          refine q_pure rfl rfl rfl rfl (pv_asg rfl) ?_
          first | refine q_nil0 ?_ | refine q_nil ?_
          refine AWp.region E_ok.ok ?_
          first | refine s_imm rfl rfl (rv_loadi rfl (part_agg T42 rfl rfl rfl)) ?_ | refine s_read rfl rfl (rv_load rfl) hg13 (part_agg T42 rfl rfl rfl) ?_ | refine s_read rfl rfl (rv_load rfl) h1 (part_agg T42 rfl rfl rfl) ?_ | refine s_read rfl rfl (rv_load rfl) h0 (part_agg T42 rfl rfl rfl) ?_
          refine s_putG rfl rfl (ev_store T42 rfl rfl (by intro vs h; cases h) h1 rfl (by exact Nat.le_of_ble_eq_true rfl) rfl) ?_
          intro A14 hn14 hg14 hk14
          replace h0 := hk14 _ _ (by omega) h0
          refine s_nil ?_
          refine AWp.region E_ok.ok ?_
          refine s_pure rfl rfl (pv_add rfl rfl (by omega) (by omega)) ?_
          refine s_pure rfl rfl (pv_mov rfl) ?_
          refine s_nil ?_
          exact ⟨⟨(k + 1, _, A14), by dsimp only; omega, h0, hg14, by dsimp only; omega, nlr, capr, by dsimp only; rw [take_sumN hv]; rfl⟩, by dsimp only; omega, Weak.frL rfl ⟨rfl, rfl, rfl, rfl, rfl, rfl, trivial⟩⟩
      · intro h9x0
        refine s_nil ?_
        refine AWp.seq ?_
        refine AWp.cond (b := false) rfl (fun h => by cases h) (fun _ => ?_)
        refine AWp.exit ?_
        obtain rfl : k = vs.length := by omega
        rw [List.take_length] at h1
        refine AWp.seq ?_
        refine AWp.seq ?_
        refine AWp.region E_ok.ok ?_
        refine s_pure rfl rfl (pv_mov rfl) ?_
        first | refine s_pure rfl rfl (pv_len T37 rfl rfl) ?_ | refine s_pure rfl rfl (pv_len_sl T37 rfl rfl) ?_
        refine s_splitP rfl rfl (pv_int rfl rfl rfl) decide_eq_true_iff ?_ ?_
        · intro h16x2
          obtain ⟨hT, hsum⟩ := hyes (by omega)
          have hTs := hT.states
          have hTh := hT.hood.2.1
          dsimp only at hTs hTh hsum
          obtain ⟨S, hS⟩ : ∃ S : Nat, st = S := ⟨st.toNat, by omega⟩
          have hSt : st.toNat = S := by omega
          rw [hSt] at hsum
          subst hS
          have hpw : ∀ j, j ≤ 25 → S ^ j ≤ 8 ^ 26 := fun j hj => Nat.le_trans (Nat.pow_le_pow_left (by omega) j) (Nat.pow_le_pow_right (by decide) (by omega))
          refine s_nil ?_
          refine AWp.cond (b := true) rfl (fun _ => ?_) (fun h => by cases h)
          refine AWp.seq ?_
          refine AWp.region E_ok.ok ?_
          refine s_callp rfl rfl rfl (hfrom 1 (by decide)) ?_
          rintro _ ⟨nl3, cap3, rfl⟩
          refine s_newG rfl rfl (nv_alloc T42 rfl) ?_
          intro A17x1 hn17x1 hg17x1 hk17x1
          replace h0 := hk17x1 _ _ (by omega) h0
          replace h1 := hk17x1 _ _ (by omega) h1
          first | refine s_putG rfl rfl (ev_store T42 rfl rfl (by intro vs h; cases h) (hg17x1) rfl (by first | exact Nat.le_of_ble_eq_true rfl | (simp; omega)) rfl) ?_ | refine s_putG rfl rfl (ev_store T42 rfl rfl (by intro vs h; cases h) (h1) rfl (by first | exact Nat.le_of_ble_eq_true rfl | (simp; omega)) rfl) ?_ | refine s_putG rfl rfl (ev_store T42 rfl rfl (by intro vs h; cases h) (h0) rfl (by first | exact Nat.le_of_ble_eq_true rfl | (simp; omega)) rfl) ?_
          intro A17x2 hn17x2 hg17x2 hk17x2
          first | replace h0 := hk17x2 _ _ (by omega) h0 | skip
          first | replace h1 := hk17x2 _ _ (by omega) h1 | skip
          first | replace hg17x1 := hk17x2 _ _ (by omega) hg17x1 | skip
          refine s_nil ?_
          refine AWp.seq ?_
          refine AWp.seq ?_
          refine AWp.region E_ok.ok ?_
          first | refine s_pure rfl rfl (pv_fld T25 rfl rfl T22 (by decide) rfl) ?_ | refine s_pure rfl rfl (pv_fldi T25 rfl rfl T22 (by decide) rfl) ?_
          first | refine s_imm rfl rfl (rv_loadi rfl (part_sc T22 rfl rfl)) ?_ | refine s_read rfl rfl (rv_load rfl) hg17x2 (part_sc T22 rfl rfl) ?_ | refine s_read rfl rfl (rv_load rfl) hg17x1 (part_sc T22 rfl rfl) ?_ | refine s_read rfl rfl (rv_load rfl) h1 (part_sc T22 rfl rfl) ?_ | refine s_read rfl rfl (rv_load rfl) h0 (part_sc T22 rfl rfl) ?_
          first | refine s_pure rfl rfl (pv_len T22 rfl rfl) ?_ | refine s_pure rfl rfl (pv_len_sl T22 rfl rfl) ?_
          refine s_pure rfl rfl (pv_mov rfl) ?_
          refine s_nil ?_
          refine AWp.block ?_
          refine AWp.loop (σ := {s : Nat × AV × AH // s.1 ≤ hood.length ∧ s.2.2.get 0 = some (.cells [.int .i64 (S : Int), .vec hnl hood.length hcap (hood.flatMap encPt), .vec nnl nodes.length ncap (nodes.flatMap encNd)]) ∧ s.2.2.get 1 = some (.cells [.bool false, vU nlw capw (PB.dig WD vs.sum)]) ∧ s.2.2.get A.next = some (.cells [.bool false, s.2.1]) ∧ A.next < s.2.2.next ∧ ∃ nl cap, s.2.1 = vU nl cap (PB.dig WD (S ^ s.1))})
            (fun s => frL 105 [(1, .ptr 0 0), (7, .ptr 1 0), (11, .ptr A.next 0), (79, .int .i64 hood.length), (80, .int .i64 s.1.1)]) (fun s => s.1.2.2) (fun s => hood.length - s.1.1)
            ⟨(0, vU nl3 cap3 (PB.dig WD 1), A17x2), Nat.zero_le _, h0, h1, hg17x2, by dsimp only; omega, nl3, cap3, rfl⟩ (Weak.frL rfl ⟨rfl, rfl, rfl, rfl, rfl, trivial⟩) ?_
          clear h0 h1 hg17x2
          rintro ⟨⟨j, w, A2⟩, hj, h0, h1, h2, hn2, nlw2, capw2, hwe⟩
          dsimp only at hj h0 h1 h2 hn2 hwe ⊢
          subst hwe
          refine AWp.seq ?_
          refine AWp.region E_ok.ok ?_
          refine s_splitP rfl rfl (pv_int rfl rfl rfl) decide_eq_true_iff ?_ ?_
          · intro h19x0
            refine s_nil ?_
            refine AWp.seq ?_
            refine AWp.cond (b := true) rfl (fun _ => ?_) (fun h => by cases h)
            refine AWp.skip ?_
            refine AWp.seq ?_
            refine AWp.block ?_
            refine AWp.seq ?_
            refine AWp.fresh fun hfr => ?_
            refine AWp.drawq E_ok.ok (ord := [0, 1, 2, 8, 3, 4, 5, 6, 7, 9, 10]) (by kernel_rfl) ?_
            first | refine q_imm rfl rfl rfl rfl (rv_loadi rfl (part_agg T42 rfl rfl rfl)) ?_ | refine q_read rfl rfl rfl rfl (rv_load rfl) h2 (part_agg T42 rfl rfl rfl) ?_ | refine q_read rfl rfl rfl rfl (rv_load rfl) h1 (part_agg T42 rfl rfl rfl) ?_ | refine q_read rfl rfl rfl rfl (rv_load rfl) h0 (part_agg T42 rfl rfl rfl) ?_
            first | refine q_pure rfl rfl rfl rfl (pv_fld T25 rfl rfl T3 (by decide) rfl) ?_ | refine q_pure rfl rfl rfl rfl (pv_fldi T25 rfl rfl T3 (by decide) rfl) ?_
            first | refine q_imm rfl rfl rfl rfl (rv_loadi rfl (part_sc T3 rfl rfl)) ?_ | refine q_read rfl rfl rfl rfl (rv_load rfl) h2 (part_sc T3 rfl rfl) ?_ | refine q_read rfl rfl rfl rfl (rv_load rfl) h1 (part_sc T3 rfl rfl) ?_ | refine q_read rfl rfl rfl rfl (rv_load rfl) h0 (part_sc T3 rfl rfl) ?_
            refine q_new rfl rfl rfl rfl (nv_alloc T42 rfl) ?_
            refine q_callpH rfl rfl rfl rfl (hfr _ (Nat.le_refl _)) (by kernel_rfl) rfl ⟨⟨_, rfl, rfl⟩, trivial⟩ rfl (hfrom S (by omega)) ?_
            rintro _ ⟨nl5, cap5, rfl⟩
            refine q_callpH rfl rfl rfl rfl (hfr _ (Nat.le_refl _)) (by kernel_rfl) rfl ⟨⟨_, rfl, by simp [noBlk, noBlks, vU, noBlks_U, ty42, setRange, aCells]⟩, ⟨_, rfl, by simp [noBlk, noBlks, vU, noBlks_U, ty42, setRange, aCells]⟩, trivial⟩ rfl
              (hmul (S ^ j) S _ _ ⟨nlw2, capw2, rfl⟩ ⟨nl5, cap5, rfl⟩ (hsmall _ (hpw _ (by omega))).1 (hsmall S (Nat.le_trans (show S ≤ 8 by omega) (by decide))).1 (hsmall _ (hpw _ (by omega))).2 (hsmall S (Nat.le_trans (show S ≤ 8 by omega) (by decide))).2) ?_
            rintro _ ⟨_, ⟨nlr, capr, rfl⟩, rfl⟩
            refine q_pure rfl rfl rfl rfl (pv_mov rfl) ?_
            refine q_pure rfl rfl rfl rfl (pv_ext rfl rfl) ?_
            refine q_pure rfl rfl rfl rfl (pv_ext rfl rfl) ?_
            refine q_storeH rfl rfl rfl rfl (by kernel_rfl) (by kernel_rfl) (ev_store T42 rfl rfl (by intro vs h; cases h) (AH.get_alloc_self _ _) rfl (by exact Nat.le_of_ble_eq_true rfl) rfl) ?_
            intro A20 hn20 hg20 hk20
            replace h0 := hk20 _ _ (by omega) h0
            replace h1 := hk20 _ _ (by omega) h1
            replace h2 := hk20 _ _ (by omega) h2
            refine q_pure rfl rfl rfl rfl (pv_asg rfl) ?_
            first | refine q_nil0 ?_ | refine q_nil ?_
            refine AWp.region E_ok.ok ?_
            first | refine s_imm rfl rfl (rv_loadi rfl (part_agg T42 rfl rfl rfl)) ?_ | refine s_read rfl rfl (rv_load rfl) hg20 (part_agg T42 rfl rfl rfl) ?_ | refine s_read rfl rfl (rv_load rfl) h2 (part_agg T42 rfl rfl rfl) ?_ | refine s_read rfl rfl (rv_load rfl) h1 (part_agg T42 rfl rfl rfl) ?_ | refine s_read rfl rfl (rv_load rfl) h0 (part_agg T42 rfl rfl rfl) ?_
            refine s_putG rfl rfl (ev_store T42 rfl rfl (by intro vs h; cases h) h2 rfl (by exact Nat.le_of_ble_eq_true rfl) rfl) ?_
            intro A21 hn21 hg21 hk21
            replace h0 := hk21 _ _ (by omega) h0
            replace h1 := hk21 _ _ (by omega) h1
            refine s_nil ?_
            refine AWp.region E_ok.ok ?_
            refine s_pure rfl rfl (pv_add rfl rfl (by omega) (by omega)) ?_
            refine s_pure rfl rfl (pv_mov rfl) ?_
            refine s_nil ?_
            exact ⟨⟨(j + 1, _, A21), by dsimp only; omega, h0, h1, hg21, by dsimp only; omega, nlr, capr, by dsimp only; rw [Nat.pow_succ]; rfl⟩, by dsimp only; omega, Weak.frL rfl ⟨rfl, rfl, rfl, rfl, rfl, trivial⟩⟩
          · intro h19x0
            refine s_nil ?_
            refine AWp.seq ?_
            refine AWp.cond (b := false) rfl (fun h => by cases h) (fun _ => ?_)
            refine AWp.exit ?_
            obtain rfl : j = hood.length := by omega
            rw [hsum] at h1
            refine AWp.seq ?_
            refine AWp.region E_ok.ok ?_
            first | refine s_imm rfl rfl (rv_loadi rfl (part_agg T42 rfl rfl rfl)) ?_ | refine s_read rfl rfl (rv_load rfl) h2 (part_agg T42 rfl rfl rfl) ?_ | refine s_read rfl rfl (rv_load rfl) h1 (part_agg T42 rfl rfl rfl) ?_ | refine s_read rfl rfl (rv_load rfl) h0 (part_agg T42 rfl rfl rfl) ?_
            first | refine s_imm rfl rfl (rv_loadi rfl (part_agg T42 rfl rfl rfl)) ?_ | refine s_read rfl rfl (rv_load rfl) h2 (part_agg T42 rfl rfl rfl) ?_ | refine s_read rfl rfl (rv_load rfl) h1 (part_agg T42 rfl rfl rfl) ?_ | refine s_read rfl rfl (rv_load rfl) h0 (part_agg T42 rfl rfl rfl) ?_
            refine s_callp rfl rfl rfl (hcmp (S ^ hood.length) _ _ (hpw _ (by omega)) ⟨nlw, capw, rfl⟩ ⟨nlw2, capw2, rfl⟩) ?_
            rintro _ rfl
            refine s_splitP rfl rfl (pv_int rfl rfl rfl) beq_iff_eq ?_ ?_
            · intro h23x3
              refine s_pure rfl rfl (pv_mov rfl) ?_
              refine s_callp rfl rfl rfl haw ?_
              rintro _ rfl
              first | refine s_pure rfl rfl (pv_pickT rfl rfl) ?_ | refine s_pure rfl rfl (pv_pickF rfl rfl) ?_
              refine s_pure rfl rfl (pv_asg rfl) ?_
              refine s_nil ?_
              refine AWp.ret ?_
              exact leaf_ok rfl rfl rfl
            · intro h23x3
              omega
              --
        · intro h16x2
          have hnT := hno (by omega)
          refine s_nil ?_
          refine AWp.cond (b := false) rfl (fun h => by cases h) (fun _ => ?_)
          refine AWp.skip ?_
          refine AWp.seq ?_
          refine AWp.region E_ok.ok ?_
          first | refine s_imm rfl rfl (rv_loadi rfl (part_agg T25 rfl rfl rfl)) ?_ | refine s_read rfl rfl (rv_load rfl) h1 (part_agg T25 rfl rfl rfl) ?_ | refine s_read rfl rfl (rv_load rfl) h0 (part_agg T25 rfl rfl rfl) ?_
          refine s_callp rfl rfl rfl hright ?_
          rintro _ rfl
          rw [tb_false hnT]
          refine s_pure rfl rfl (pv_un rfl rfl) ?_
          refine s_pure rfl rfl (pv_mov rfl) ?_
          refine s_callp rfl rfl rfl haw ?_
          rintro _ rfl
          first | refine s_pure rfl rfl (pv_pickT rfl rfl) ?_ | refine s_pure rfl rfl (pv_pickF rfl rfl) ?_
          refine s_pure rfl rfl (pv_asg rfl) ?_
          refine s_nil ?_
          refine AWp.ret ?_
          exact leaf_ok rfl rfl rfl
  · skip
    refine s_pure rfl rfl (pv_un rfl rfl) ?_
    refine s_nil ?_
    refine AWp.cond (b := true) rfl (fun _ => ?_) (fun h => by cases h)
    refine AWp.seq ?_
    refine AWp.region E_ok.ok ?_
    refine s_callp rfl rfl rfl haw ?_
    rintro _ rfl
    refine s_pure rfl rfl (pv_asg rfl) ?_
    refine s_nil ?_
    refine AWp.ret ?_
    exact leaf_ok rfl rfl rfl
end Go.Am.Seat

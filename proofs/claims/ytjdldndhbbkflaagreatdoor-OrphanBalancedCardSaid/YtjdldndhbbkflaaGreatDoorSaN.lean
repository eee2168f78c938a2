/- A part of the proof about cellularlaw49.OrphanBalanced: lemmas only; what they say is theirs alone and no condition of the claim. -/
import Derived.Test.YtjdldndhbbkflaaGreatDoorSaK
import Derived.Test.YtjdldndhbbkflaaGreatDoorSaE
set_option autoImplicit false
set_option linter.unusedVariables false
set_option linter.unusedSimpArgs false
set_option maxRecDepth 100000
noncomputable section
namespace Go.Am.Seat
open Go Go.Am Go.Proofs
/-! ## lists of big integers -/
def IsBs : List Nat → List AV → Prop
  | [], cs => cs = []
  | v :: vs, cs => ∃ nl cap rest, cs = .bool false :: vU nl cap (PB.dig WD v) :: rest ∧ IsBs vs rest
theorem IsBs.len : ∀ {vs : List Nat} {cs : List AV}, IsBs vs cs → cs.length = vs.length * 2
  | [], cs, h => by obtain rfl : cs = [] := h; rfl
  | v :: vs, cs, ⟨nl, cap, rest, e, h⟩ => by subst e; simp [h.len, Nat.add_mul]
theorem IsBs.sc : ∀ {vs : List Nat} {cs : List AV}, IsBs vs cs → cs.all AV.sc = true
  | [], cs, h => by obtain rfl : cs = [] := h; rfl
  | v :: vs, cs, ⟨nl, cap, rest, e, h⟩ => by subst e; have := h.sc; simp only [List.all_cons, this]; rfl
theorem IsBs.noBlks : ∀ {vs : List Nat} {cs : List AV}, IsBs vs cs → noBlks cs = true
  | [], cs, h => by obtain rfl : cs = [] := h; rfl
  | v :: vs, cs, ⟨nl, cap, rest, e, h⟩ => by subst e; have := h.noBlks; simp [Am.noBlks, noBlk, vU, noBlks_U, this]
theorem IsBs.get : ∀ {vs : List Nat} {cs : List AV} {k v : Nat}, IsBs vs cs → vs[k]? = some v → ∃ nl cap rest, cs.drop (k * 2) = .bool false :: vU nl cap (PB.dig WD v) :: rest
  | [], cs, k, v, _, h => by simp at h
  | w :: vs, cs, 0, v, ⟨nl, cap, rest, e, _⟩, h => by simp at h; subst h e; exact ⟨nl, cap, rest, rfl⟩
  | w :: vs, cs, k + 1, v, ⟨nl, cap, rest, e, hr⟩, h => by
    obtain ⟨nl', cap', rest', e'⟩ := hr.get (k := k) (v := v) (by simpa using h)
    exact ⟨nl', cap', rest', by subst e; rw [Nat.add_mul]; simpa using e'⟩
theorem IsBs.set : ∀ {vs : List Nat} {cs : List AV} {k v : Nat} {nl : Bool} {cap : Option Nat}, IsBs vs cs → k < vs.length → IsBs (vs.set k v) (setRange cs (k * 2) [.bool false, vU nl cap (PB.dig WD v)])
  | [], cs, k, v, _, _, _, h => by simp at h
  | w :: vs, cs, 0, v, nl, cap, ⟨nl', cap', rest, e, hr⟩, h => by subst e; exact ⟨nl, cap, rest, by simp [setRange], hr⟩
  | w :: vs, cs, k + 1, v, nl, cap, ⟨nl', cap', rest, e, hr⟩, h => by
    have ih := hr.set (k := k) (v := v) (nl := nl) (cap := cap) (by simpa using h)
    subst e
    refine ⟨nl', cap', _, ?_, ih⟩
    simp only [setRange, List.length_cons, List.length_nil]
    rw [show (k + 1) * 2 = k * 2 + 1 + 1 by omega]
    simp [List.take_succ_cons, Nat.add_assoc, Nat.add_comm 2]
theorem IsBs.zero : ∀ n, IsBs (List.replicate n 0) (reps ty42.zero n)
  | 0 => rfl
  | n + 1 => by
    rw [List.replicate_succ]
    exact ⟨true, some 0, reps ty42.zero n, by rw [PB.dig_zero]; rfl, IsBs.zero n⟩
theorem IsBs.dropI {vs : List Nat} {cs : List AV} {k v : Nat} {i : Int} (h : IsBs vs cs) (hi : i = k) (hv : vs[k]? = some v) : ∃ nl cap rest, cs.drop (i.toNat * 2) = .bool false :: vU nl cap (PB.dig WD v) :: rest := by
  subst hi; exact h.get hv
theorem set_range {S q v : Nat} {g : Nat → Nat} : ((List.range S).map g).set q v = (List.range S).map fun s => if s = q then v else g s := by
  apply List.ext_getElem?
  intro j
  simp only [List.getElem?_set, List.length_map, List.length_range, List.getElem?_map]
  by_cases hj : q = j
  · subst hj
    by_cases hq : q < S
    · simp [hq, List.getElem?_range]
    · simp [hq]
  · rw [if_neg hj]
    by_cases hjS : j < S
    · simp [List.getElem?_range hjS, Ne.symm hj]
    · simp [List.getElem?_eq_none (show (List.range S).length ≤ j by simpa using hjS)]
theorem get_range {S q : Nat} {g : Nat → Nat} (h : q < S) : ((List.range S).map g)[q]? = some (g q) := by
  rw [List.getElem?_map, List.getElem?_range h]; rfl
/-! ## how many ways lead from a node to a state -/
def con (w : Nat → Nat → Nat) (L s : Nat) (k : Int) : Nat := if L = 0 then (if k = (s : Int) then 1 else 0) else w k.toNat s
def wl (nodes : List Nd) : Nat → Nat → Nat → Nat
  | 0, _, _ => 0
  | L + 1, i, s => ((((nodes[i]?).map Nd.next).getD []).map (con (wl nodes L) L s)).sum
theorem wl_succ {nodes : List Nd} {L i s : Nat} {x : Nd} (h : nodes[i]? = some x) : wl nodes (L + 1) i s = (x.next.map (con (wl nodes L) L s)).sum := by
  rw [wl, h]; rfl
theorem sum_le {l : List Int} {f : Int → Nat} {b : Nat} (h : ∀ k, f k ≤ b) : (l.map f).sum ≤ l.length * b := by
  induction l with
  | nil => simp
  | cons a l ih => simp only [List.map_cons, List.sum_cons, List.length_cons, Nat.add_mul]; have := h a; omega
theorem wl_le {nodes : List Nd} (hn : ∀ d ∈ nodes, d.next.length ≤ 8) : ∀ L i s, wl nodes L i s ≤ 8 ^ L
  | 0, i, s => by simp [wl]
  | L + 1, i, s => by
    have ih := wl_le hn L
    cases h : nodes[i]? with
    | none => rw [wl, h]; simp
    | some x =>
      rw [wl_succ h]
      have h1 : ∀ k, con (wl nodes L) L s k ≤ 8 ^ L := by
        intro k
        unfold con
        split
        · split
          · exact Nat.pow_pos (by decide)
          · exact Nat.zero_le _
        · exact ih _ _
      have h2 := sum_le (l := x.next) h1
      have h3 := hn x (List.mem_of_getElem? h)
      have h4 : x.next.length * 8 ^ L ≤ 8 * 8 ^ L := Nat.mul_le_mul_right _ h3
      rw [Nat.pow_succ]; omega
theorem dig_small {v : Nat} (h : v ≤ 8 ^ 26) : (PB.dig WD v).length ≤ 3 := PB.dig_len wd2 3 v (Nat.lt_of_le_of_lt h (by decide))
theorem dig8_small {v : Nat} (h : v ≤ 8 ^ 26) : (PB.dig 256 v).length ≤ 10 := PB.dig_len wd256 10 v (Nat.lt_of_le_of_lt h (by decide))
end Go.Am.Seat


namespace Go.Am.Seat
open Go Go.Am Go.Proofs
/-- what the table of counts holds for a node -/
def Good (nodes : List Nd) (S : Nat) (i : Int) (v : AV) : Prop := ∃ x cap cs, nodes[i.toNat]? = some x ∧ v = .vec false S cap cs ∧ IsBs ((List.range S).map (wl nodes x.level.toNat i.toNat)) cs
def CountPost (nodes : List Nd) (S : Nat) (βm : Nat) (A : AH) (i : Int) (r : AV) (A' : AH) : Prop :=
  (∃ es, A'.get βm = some (.map es) ∧ MapOk .i64 (Good nodes S) es) ∧ HK βm A A' ∧ Good nodes S i r
theorem zv37 : zvalA E.C 37 = some (.vec true 0 (some 0) []) := by simp only [zvalA, T37, Option.bind_some]; rfl
theorem take_sum {l : List Int} {f : Int → Nat} {j : Nat} {m : Int} (h : l[j]? = some m) : ((l.take (j + 1)).map f).sum = ((l.take j).map f).sum + f m := by
  obtain ⟨hj, rfl⟩ := List.getElem?_eq_some_iff.1 h
  rw [List.take_succ_eq_append_getElem hj, List.map_append, List.sum_append]; simp
theorem take_sum_le (l : List Int) (f : Int → Nat) (j : Nat) : ((l.take j).map f).sum ≤ (l.map f).sum := by
  conv => rhs; rw [← List.take_append_drop j l, List.map_append, List.sum_append]
  omega
theorem count_ok (st : Int) (hnl : Bool) (hcap : Option Nat) (hood : List Pt) (nnl : Bool) (ncap : Option Nat) (nodes : List Nd) (S : Nat) (hS : st = S) (hS8 : 2 ≤ S ∧ S ≤ 8) (hhood : hood.length ≤ 25) (hnodes : nodes.length ≤ 4096)
    (hnode : ∀ (i : Nat) (x : Nd), nodes[i]? = some x → NodeOk ⟨st, ⟨hnl, hcap, hood⟩, ⟨nnl, ncap, nodes⟩⟩ i x) :
    ∀ (L i : Nat) (x : Nd) (A : AH) (βb βm : Nat) (es : List (AV × AV)), nodes[i]? = some x → x.level = L →
      A.get βb = some (.cells [.int .i64 st, .vec hnl hood.length hcap (hood.flatMap encPt), .vec nnl nodes.length ncap (nodes.flatMap encNd), .map βm]) → A.get βm = some (.map es) → βb ≠ βm → βb < A.next → βm < A.next →
      MapOk .i64 (Good nodes S) es → ACall E.C 32 [.ptr βb 0, .int .i64 (i : Int)] A (CountPost nodes S βm A (i : Int)) := by
  intro L
  induction L with
  | zero =>
    intro i x A βb βm es hx hL
    have := (hnode i x hx).1
    omega
  | succ L ih =>
    intro i x A βb βm es hx hL hb hm hbm hbn hmn hes
    have hN := hnode i x hx
    obtain ⟨N1, N2, N3, N4⟩ := hN
    dsimp only at N1 N2 N3 N4
    have hilt : i < nodes.length := (List.getElem?_eq_some_iff.1 hx).1
    have hxl : x.next.length = S := by omega
    have hn8 : ∀ d ∈ nodes, d.next.length ≤ 8 := by
      intro d hd
      obtain ⟨j, hj⟩ := List.getElem?_of_mem hd
      have := (hnode j d hj).2.2.1
      dsimp only at this
      omega
    have hL25 : L ≤ 24 := by omega
    have hconb : ∀ s k, con (wl nodes L) L s k ≤ 8 ^ L := by
      intro s k
      unfold con
      split
      · split
        · exact Nat.pow_pos (by decide)
        · exact Nat.zero_le _
      · exact wl_le hn8 _ _ _
    have hsumb : ∀ s j, ((x.next.take j).map (con (wl nodes L) L s)).sum ≤ 8 ^ 25 := by
      intro s j
      refine Nat.le_trans (take_sum_le _ _ _) (Nat.le_trans (sum_le (hconb s)) ?_)
      rw [hxl]
      refine Nat.le_trans (Nat.mul_le_mul_right _ hS8.2) ?_
      rw [show 8 * 8 ^ L = 8 ^ (L + 1) by rw [Nat.pow_succ, Nat.mul_comm]]
      exact Nat.pow_le_pow_right (by decide) (by omega)
    have hL1 : x.level.toNat = L + 1 := by omega
    have h826 : 8 ^ 25 + 8 ^ 25 ≤ 8 ^ 26 := by decide
    have hikk : (i : Int) = i := rfl
    have hfrom := from_ok
    have hadd := add_ok
    subst hS
    refine ACall.of_body E_ok.ok Tryz.func32 rfl (by kernel_rfl) ?_
    have HKA := HK.refl βm A
    refine AWp.seq ?_
    refine AWp.region E_ok.ok ?_
    refine s_pure rfl rfl (pv_asg rfl) ?_
    refine s_nil ?_
    refine AWp.seq ?_
    refine AWp.seq ?_
    refine AWp.region E_ok.ok ?_
    refine s_pure rfl rfl (pv_mov rfl) ?_
    refine s_pure rfl rfl (pv_nilc rfl) ?_
    first | refine s_pure rfl rfl (pv_fld T67 rfl rfl T65 (by decide) rfl) ?_ | refine s_pure rfl rfl (pv_fldi T67 rfl rfl T65 (by decide) rfl) ?_
    first | refine s_imm rfl rfl (rv_loadi rfl (part_sc T65 rfl rfl)) ?_ | refine s_read rfl rfl (rv_load rfl) hm (part_sc T65 rfl rfl) ?_ | refine s_read rfl rfl (rv_load rfl) hb (part_sc T65 rfl rfl) ?_
    refine s_pure rfl rfl (pv_mov rfl) ?_
    refine s_lookup rfl rfl (rv_lookup T65 rfl T3 rfl zv37 rfl rfl hes) hm ?_
    rintro u (⟨v, rfl, hGv⟩ | rfl)
    · skip
      refine s_pure rfl rfl (pv_mov rfl) ?_
      refine s_pure rfl rfl (pv_ext rfl rfl) ?_
      refine s_pure rfl rfl (pv_ext rfl rfl) ?_
      refine s_pure rfl rfl (pv_asg rfl) ?_
      refine s_pure rfl rfl (pv_asg rfl) ?_
      refine s_nil ?_
      refine AWp.seq ?_
      refine AWp.region E_ok.ok ?_
      refine s_pure rfl rfl (pv_mov rfl) ?_
      refine s_nil ?_
      refine AWp.cond (b := true) rfl (fun _ => ?_) (fun h => by cases h)
      refine AWp.seq ?_
      refine AWp.region E_ok.ok ?_
      refine s_pure rfl rfl (pv_mov rfl) ?_
      refine s_pure rfl rfl (pv_asg rfl) ?_
      refine s_nil ?_
      refine AWp.ret ?_
      exact ⟨_, rfl, ⟨es, hm, hes⟩, HKA, hGv⟩
    · skip
      refine s_pure rfl rfl (pv_mov rfl) ?_
      refine s_pure rfl rfl (pv_ext rfl rfl) ?_
      refine s_pure rfl rfl (pv_ext rfl rfl) ?_
      refine s_pure rfl rfl (pv_asg rfl) ?_
      refine s_pure rfl rfl (pv_asg rfl) ?_
      refine s_nil ?_
      refine AWp.seq ?_
      refine AWp.region E_ok.ok ?_
      refine s_pure rfl rfl (pv_mov rfl) ?_
      refine s_nil ?_
      refine AWp.cond (b := false) rfl (fun h => by cases h) (fun _ => ?_)
      refine AWp.skip ?_
      refine AWp.seq ?_
      refine AWp.region E_ok.ok ?_
      refine s_pure rfl rfl (pv_mov rfl) ?_
      refine s_pure rfl rfl (pv_nilc rfl) ?_
      first | refine s_pure rfl rfl (pv_fld T67 rfl rfl T25 (by decide) rfl) ?_ | refine s_pure rfl rfl (pv_fldi T67 rfl rfl T25 (by decide) rfl) ?_
      first | refine s_pure rfl rfl (pv_fld T25 rfl rfl T3 (by decide) rfl) ?_ | refine s_pure rfl rfl (pv_fldi T25 rfl rfl T3 (by decide) rfl) ?_
      first | refine s_imm rfl rfl (rv_loadi rfl (part_sc T3 rfl rfl)) ?_ | refine s_read rfl rfl (rv_load rfl) hm (part_sc T3 rfl rfl) ?_ | refine s_read rfl rfl (rv_load rfl) hb (part_sc T3 rfl rfl) ?_
      refine s_newG rfl rfl (nv_make T37 rfl T42 rfl rfl (by omega) (by omega) (by omega) (by show (32 : Int) * (S : Int) ≤ 281474976710656; omega) rfl rfl) ?_
      intro A4 hn4 hg4 hk4
      replace hb := hk4 _ _ (by omega) hb
      replace hm := hk4 _ _ (by omega) hm
      replace HKA := HKA.grw hk4 (by omega)
      have hl : A4.get A.next = some (.cells (reps ty42.zero S)) := hg4
      refine s_pure rfl rfl (pv_asg rfl) ?_
      refine s_nil ?_
      refine AWp.seq ?_
      refine AWp.seq ?_
      refine AWp.region E_ok.ok ?_
      refine s_pure rfl rfl (pv_mov rfl) ?_
      first | refine s_pure rfl rfl (pv_len T37 rfl rfl) ?_ | refine s_pure rfl rfl (pv_len_sl T37 rfl rfl) ?_
      refine s_pure rfl rfl (pv_mov rfl) ?_
      refine s_nil ?_
      refine AWp.block ?_
      refine AWp.loop (σ := {s : Nat × List AV × AH // s.1 ≤ S ∧ s.2.2.get βb = some (.cells [.int .i64 (S : Int), .vec hnl hood.length hcap (hood.flatMap encPt), .vec nnl nodes.length ncap (nodes.flatMap encNd), .map βm]) ∧ s.2.2.get βm = some (.map es) ∧ s.2.2.get A.next = some (.cells s.2.1) ∧ IsBs (List.replicate S 0) s.2.1 ∧ HK βm A s.2.2 ∧ A.next < s.2.2.next})
        (fun s => frL 101 [(0, .ptr βb 0), (1, .int .i64 i), (7, .slice A.next 0 S (some S) 2), (32, .int .i64 S), (33, .int .i64 s.1.1)]) (fun s => s.1.2.2) (fun s => S - s.1.1)
        ⟨(0, _, A4), Nat.zero_le _, hb, hm, hl, IsBs.zero S, HKA, by dsimp only; omega⟩ (Weak.frL rfl ⟨rfl, rfl, rfl, rfl, rfl, trivial⟩) ?_
      clear hb hm hl HKA hg4 hk4 hn4
      rintro ⟨⟨k, cs, A1⟩, hk, hb, hm, hl, hcs, HKA, hn1⟩
      dsimp only at hk hb hm hl hcs HKA hn1 ⊢
      refine AWp.seq ?_
      refine AWp.region E_ok.ok ?_
      refine s_splitP rfl rfl (pv_int rfl rfl rfl) decide_eq_true_iff ?_ ?_
      · intro h6x0
        refine s_nil ?_
        refine AWp.seq ?_
        refine AWp.cond (b := true) rfl (fun _ => ?_) (fun h => by cases h)
        refine AWp.skip ?_
        refine AWp.seq ?_
        refine AWp.block ?_
        refine AWp.seq ?_
        refine AWp.region E_ok.ok ?_
        refine s_pure rfl rfl (pv_mov rfl) ?_
        refine s_pure rfl rfl (pv_asg rfl) ?_
        refine s_nil ?_
        refine AWp.region E_ok.ok ?_
        refine s_pure rfl rfl (pv_mov rfl) ?_
        refine s_pure rfl rfl (pv_mov rfl) ?_
        refine s_callp rfl rfl rfl (hfrom 0 (by decide)) ?_
        rintro _ ⟨nl1, cap1, rfl⟩
        first | refine s_pure rfl rfl (pv_idx T37 rfl T42 rfl rfl (by omega) (by omega) (rfl)) ?_ | refine s_pure rfl rfl (pv_idx_sl T37 rfl T42 rfl rfl (by omega) (by omega)) ?_
        refine s_putG rfl rfl (ev_store T42 rfl rfl (by intro vs h; cases h) hl rfl (by rw [hcs.len, List.length_replicate]; show 0 + (k : Int).toNat * 2 + 2 ≤ S * 2; omega) rfl) ?_
        intro A2 hn2 hg2 hk2
        have hg2' : A2.get A.next = some (.cells (setRange cs (k * 2) [.bool false, vU nl1 cap1 (PB.dig WD 0)])) := by
          rw [hg2, show 0 + (k : Int).toNat * ty42.size = k * 2 by show 0 + (k : Int).toNat * 2 = _; omega]; rfl
        have hcs' := hcs.set (k := k) (v := 0) (nl := nl1) (cap := cap1) (by rw [List.length_replicate]; omega)
        rw [show (List.replicate S 0).set k 0 = List.replicate S 0 by simp] at hcs'
        replace hb := hk2 _ _ (by omega) hb
        replace hm := hk2 _ _ (by omega) hm
        replace HKA := HKA.chg hk2 (by omega) (by omega)
        refine s_nil ?_
        refine AWp.region E_ok.ok ?_
        refine s_pure rfl rfl (pv_add rfl rfl (by omega) (by omega)) ?_
        refine s_pure rfl rfl (pv_mov rfl) ?_
        refine s_nil ?_
        exact ⟨⟨(k + 1, _, A2), by dsimp only; omega, hb, hm, hg2', hcs', HKA, by dsimp only; omega⟩, by dsimp only; omega, Weak.frL rfl ⟨rfl, rfl, rfl, rfl, rfl, trivial⟩⟩
      · intro h6x0
        refine s_nil ?_
        refine AWp.seq ?_
        refine AWp.cond (b := false) rfl (fun h => by cases h) (fun _ => ?_)
        refine AWp.exit ?_
        refine AWp.seq ?_
        refine AWp.region E_ok.ok ?_
        refine s_pure rfl rfl (pv_mov rfl) ?_
        refine s_pure rfl rfl (pv_nilc rfl) ?_
        first | refine s_pure rfl rfl (pv_fld T67 rfl rfl T25 (by decide) rfl) ?_ | refine s_pure rfl rfl (pv_fldi T67 rfl rfl T25 (by decide) rfl) ?_
        first | refine s_pure rfl rfl (pv_fld T25 rfl rfl T23 (by decide) rfl) ?_ | refine s_pure rfl rfl (pv_fldi T25 rfl rfl T23 (by decide) rfl) ?_
        first | refine s_imm rfl rfl (rv_loadi rfl (part_sc T23 rfl rfl)) ?_ | refine s_read rfl rfl (rv_load rfl) hl (part_sc T23 rfl rfl) ?_ | refine s_read rfl rfl (rv_load rfl) hm (part_sc T23 rfl rfl) ?_ | refine s_read rfl rfl (rv_load rfl) hb (part_sc T23 rfl rfl) ?_
        refine s_pure rfl rfl (pv_mov rfl) ?_
        first | refine s_pure rfl rfl (pv_idx T23 rfl T49 rfl rfl (by omega) (by omega) (drop_encI encNd_len hikk hx)) ?_ | refine s_pure rfl rfl (pv_idx_sl T23 rfl T49 rfl rfl (by omega) (by omega)) ?_
        first | refine s_imm rfl rfl (rv_loadi rfl (part_agg T49 rfl rfl rfl)) ?_ | refine s_read rfl rfl (rv_load rfl) hl (part_agg T49 rfl rfl rfl) ?_ | refine s_read rfl rfl (rv_load rfl) hm (part_agg T49 rfl rfl rfl) ?_ | refine s_read rfl rfl (rv_load rfl) hb (part_agg T49 rfl rfl rfl) ?_
        refine s_newG rfl rfl (nv_alloc T49 rfl) ?_
        intro A10x8 hn10x8 hg10x8 hk10x8
        replace hb := hk10x8 _ _ (by omega) hb
        replace hm := hk10x8 _ _ (by omega) hm
        replace hl := hk10x8 _ _ (by omega) hl
        replace HKA := HKA.grw hk10x8 (by omega)
        first | refine s_putG rfl rfl (ev_store T49 rfl rfl (by intro vs h; cases h) (hg10x8) rfl (by first | exact Nat.le_of_ble_eq_true rfl | (simp; omega)) rfl) ?_ | refine s_putG rfl rfl (ev_store T49 rfl rfl (by intro vs h; cases h) (hl) rfl (by first | exact Nat.le_of_ble_eq_true rfl | (simp; omega)) rfl) ?_ | refine s_putG rfl rfl (ev_store T49 rfl rfl (by intro vs h; cases h) (hm) rfl (by first | exact Nat.le_of_ble_eq_true rfl | (simp; omega)) rfl) ?_ | refine s_putG rfl rfl (ev_store T49 rfl rfl (by intro vs h; cases h) (hb) rfl (by first | exact Nat.le_of_ble_eq_true rfl | (simp; omega)) rfl) ?_
        intro A10x9 hn10x9 hg10x9 hk10x9
        first | replace hb := hk10x9 _ _ (by omega) hb | skip
        first | replace hm := hk10x9 _ _ (by omega) hm | skip
        first | replace hl := hk10x9 _ _ (by omega) hl | skip
        first | replace hg10x8 := hk10x9 _ _ (by omega) hg10x8 | skip
        replace HKA := HKA.chg hk10x9 (by omega) (by omega)
        refine s_nil ?_
        refine AWp.seq ?_
        refine AWp.seq ?_
        refine AWp.region E_ok.ok ?_
        first | refine s_pure rfl rfl (pv_fld T49 rfl rfl T29 (by decide) rfl) ?_ | refine s_pure rfl rfl (pv_fldi T49 rfl rfl T29 (by decide) rfl) ?_
        first | refine s_imm rfl rfl (rv_loadi rfl (part_sc T29 rfl rfl)) ?_ | refine s_read rfl rfl (rv_load rfl) hg10x9 (part_sc T29 rfl rfl) ?_ | refine s_read rfl rfl (rv_load rfl) hg10x8 (part_sc T29 rfl rfl) ?_ | refine s_read rfl rfl (rv_load rfl) hl (part_sc T29 rfl rfl) ?_ | refine s_read rfl rfl (rv_load rfl) hm (part_sc T29 rfl rfl) ?_ | refine s_read rfl rfl (rv_load rfl) hb (part_sc T29 rfl rfl) ?_
        first | refine s_pure rfl rfl (pv_len T29 rfl rfl) ?_ | refine s_pure rfl rfl (pv_len_sl T29 rfl rfl) ?_
        refine s_pure rfl rfl (pv_mov rfl) ?_
        refine s_nil ?_
        refine AWp.block ?_
        have hq0 : IsBs ((List.range S).map fun s => ((x.next.take 0).map (con (wl nodes L) L s)).sum) cs := by
          have : (List.range S).map (fun s => ((x.next.take 0).map (con (wl nodes L) L s)).sum) = List.replicate S 0 := by
            rw [show (fun s => ((x.next.take 0).map (con (wl nodes L) L s)).sum) = fun _ => 0 from by funext s; simp, List.map_const', List.length_range]
          rw [this]; exact hcs
        obtain ⟨β9, hβ9⟩ : ∃ β9, β9 = A1.next := ⟨_, rfl⟩
        refine AWp.loop (σ := {s : Nat × List AV × List (AV × AV) × AH // s.1 ≤ S ∧ s.2.2.2.get βb = some (.cells [.int .i64 (S : Int), .vec hnl hood.length hcap (hood.flatMap encPt), .vec nnl nodes.length ncap (nodes.flatMap encNd), .map βm]) ∧ s.2.2.2.get βm = some (.map s.2.2.1) ∧ MapOk .i64 (Good nodes S) s.2.2.1 ∧
            s.2.2.2.get A.next = some (.cells s.2.1) ∧ s.2.2.2.get β9 = some (.cells (encNd x)) ∧ IsBs ((List.range S).map fun s' => ((x.next.take s.1).map (con (wl nodes L) L s')).sum) s.2.1 ∧ HK βm A s.2.2.2 ∧ β9 < s.2.2.2.next})
          (fun s => frL 101 [(0, .ptr βb 0), (1, .int .i64 i), (7, .slice A.next 0 S (some S) 2), (9, .ptr β9 0), (50, .vec x.nl x.next.length x.cap (x.next.map (.int .i64))), (51, .int .i64 x.next.length), (52, .int .i64 s.1.1)]) (fun s => s.1.2.2.2) (fun s => S - s.1.1)
          ⟨(0, cs, es, _), Nat.zero_le _, hb, hm, hes, hl, (by rw [hβ9]; exact hg10x9), hq0, HKA, by dsimp only; omega⟩ (Weak.frL rfl ⟨rfl, rfl, rfl, (by rw [hβ9]; rfl), rfl, rfl, rfl, trivial⟩) ?_
        clear hb hm hes hl hg10x9 hg10x8 hk10x9 hk10x8 hq0 HKA hcs
        have hβ9A : A.next < β9 := by omega
        clear hn10x9 hn10x8 hβ9 hn1
        rintro ⟨⟨j, cs2, es2, A3⟩, hj, hb, hm, hes, hl, h9, hcs, HKA, hn3⟩
        dsimp only at hj hb hm hes hl h9 hcs HKA hn3 ⊢
        refine AWp.seq ?_
        refine AWp.region E_ok.ok ?_
        refine s_splitP rfl rfl (pv_int rfl rfl rfl) decide_eq_true_iff ?_ ?_
        · intro h12x0
          obtain ⟨m, hmj⟩ := get_some (show j < x.next.length by omega)
          have hjj : (j : Int) = j := rfl
          obtain ⟨M1, M2, M3⟩ := N4 j m hmj
          refine s_nil ?_
          refine AWp.seq ?_
          refine AWp.cond (b := true) rfl (fun _ => ?_) (fun h => by cases h)
          refine AWp.skip ?_
          refine AWp.seq ?_
          refine AWp.block ?_
          refine AWp.seq ?_
          refine AWp.region E_ok.ok ?_
          first | refine s_pure rfl rfl (pv_idx T29 rfl T3 rfl rfl (by omega) (by omega) (drop_map hjj hmj)) ?_ | refine s_pure rfl rfl (pv_idx_sl T29 rfl T3 rfl rfl (by omega) (by omega)) ?_
          first | refine s_imm rfl rfl (rv_loadi rfl (part_sc T3 rfl rfl)) ?_ | refine s_read rfl rfl (rv_load rfl) h9 (part_sc T3 rfl rfl) ?_ | refine s_read rfl rfl (rv_load rfl) hl (part_sc T3 rfl rfl) ?_ | refine s_read rfl rfl (rv_load rfl) hm (part_sc T3 rfl rfl) ?_ | refine s_read rfl rfl (rv_load rfl) hb (part_sc T3 rfl rfl) ?_
          refine s_pure rfl rfl (pv_asg rfl) ?_
          refine s_nil ?_
          refine AWp.seq ?_
          refine AWp.seq ?_
          refine AWp.region E_ok.ok ?_
          first | refine s_pure rfl rfl (pv_fld T49 rfl rfl T3 (by decide) rfl) ?_ | refine s_pure rfl rfl (pv_fldi T49 rfl rfl T3 (by decide) rfl) ?_
          first | refine s_imm rfl rfl (rv_loadi rfl (part_sc T3 rfl rfl)) ?_ | refine s_read rfl rfl (rv_load rfl) h9 (part_sc T3 rfl rfl) ?_ | refine s_read rfl rfl (rv_load rfl) hl (part_sc T3 rfl rfl) ?_ | refine s_read rfl rfl (rv_load rfl) hm (part_sc T3 rfl rfl) ?_ | refine s_read rfl rfl (rv_load rfl) hb (part_sc T3 rfl rfl) ?_
          refine s_splitP rfl rfl (pv_int rfl rfl rfl) beq_iff_eq ?_ ?_
          · intro h14x2
            have hL0 : L = 0 := by omega
            have hmS : m < S := M2 (by omega)
            have hmm : m = (m.toNat : Nat) := by omega
            have hmS' : m.toNat < S := by omega
            obtain ⟨nlo, capo, resto, hdrop⟩ := hcs.get (get_range hmS')
            have hb1 := hsumb m.toNat j
            have hdrop' : cs2.drop (0 + m.toNat * ty42.size) = .bool false :: vU nlo capo (PB.dig WD (((x.next.take j).map (con (wl nodes L) L m.toNat)).sum)) :: resto := by
              rw [Nat.zero_add]; exact hdrop
            refine s_nil ?_
            refine AWp.cond (b := true) rfl (fun _ => ?_) (fun h => by cases h)
            refine AWp.seq ?_
            refine AWp.drawq E_ok.ok (ord := [0, 1, 2, 3, 4, 5, 6, 7, 8, 9, 10, 11, 12]) (by kernel_rfl) ?_
            refine q_pure rfl rfl rfl rfl (pv_mov rfl) ?_
            refine q_pure rfl rfl rfl rfl (pv_mov rfl) ?_
            refine q_pure rfl rfl rfl rfl (pv_mov rfl) ?_
            refine q_pure rfl rfl rfl rfl (pv_mov rfl) ?_
            first | refine q_pure rfl rfl rfl rfl (pv_idx T37 rfl T42 rfl rfl (by omega) (by omega) (rfl)) ?_ | refine q_pure rfl rfl rfl rfl (pv_idx_sl T37 rfl T42 rfl rfl (by omega) (by omega)) ?_
            refine q_read rfl rfl rfl rfl (rv_load rfl) hl (part_agg T42 rfl (show (cs2.drop (0 + m.toNat * ty42.size)).take ty42.size = [.bool false, vU nlo capo (PB.dig WD (((x.next.take j).map (con (wl nodes L) L m.toNat)).sum))] by rw [hdrop']; rfl) rfl) ?_
            refine q_callp rfl rfl rfl rfl rfl (hfrom 1 (by decide)) ?_
            rintro r1 hr1
            refine q_callp rfl rfl rfl rfl rfl (hadd (((x.next.take j).map (con (wl nodes L) L m.toNat)).sum) 1 _ r1 ⟨nlo, capo, rfl⟩ hr1 (by have := dig_small (Nat.le_trans hb1 (by decide)); omega) (by have := dig_small (v := 1) (by decide); omega) (by have := dig_small (Nat.le_trans (Nat.add_le_add_right hb1 1) (by decide)); omega)) ?_
            rintro _ ⟨_, ⟨nlr, capr, rfl⟩, rfl⟩
            refine q_pure rfl rfl rfl rfl (pv_mov rfl) ?_
            refine q_pure rfl rfl rfl rfl (pv_ext rfl rfl) ?_
            refine q_pure rfl rfl rfl rfl (pv_ext rfl rfl) ?_
            first | refine q_pure rfl rfl rfl rfl (pv_idx T37 rfl T42 rfl rfl (by omega) (by omega) (rfl)) ?_ | refine q_pure rfl rfl rfl rfl (pv_idx_sl T37 rfl T42 rfl rfl (by omega) (by omega)) ?_
            refine q_putG0 rfl rfl rfl rfl (by kernel_rfl) (ev_store T42 rfl rfl (by intro vs h; cases h) hl rfl (by rw [hcs.len, List.length_map, List.length_range]; show 0 + m.toNat * 2 + 2 ≤ S * 2; omega) rfl) ?_
            intro A5 hn5 hg5 hk5
            have hcs' := hcs.set (k := m.toNat) (v := ((x.next.take j).map (con (wl nodes L) L m.toNat)).sum + 1) (nl := nlr) (cap := capr) (by simpa using hmS')
            rw [set_range] at hcs'
            have hfun : (List.range S).map (fun s => if s = m.toNat then ((x.next.take j).map (con (wl nodes L) L m.toNat)).sum + 1 else ((x.next.take j).map (con (wl nodes L) L s)).sum) = (List.range S).map (fun s => ((x.next.take (j + 1)).map (con (wl nodes L) L s)).sum) := by
              apply List.map_congr_left
              intro s hs
              rw [take_sum hmj]
              by_cases e : s = m.toNat
              · subst e; rw [if_pos rfl, con, if_pos hL0, if_pos (by omega)]
              · rw [if_neg e, con, if_pos hL0, if_neg (by omega)]; rfl
            rw [hfun] at hcs'
            have hg5' : A5.get A.next = some (.cells (setRange cs2 (m.toNat * 2) [.bool false, vU nlr capr (PB.dig WD (((x.next.take j).map (con (wl nodes L) L m.toNat)).sum + 1))])) := by
              rw [hg5, show 0 + m.toNat * ty42.size = m.toNat * 2 by show 0 + m.toNat * 2 = _; omega]; rfl
            replace hb := hk5 _ _ (by omega) hb
            replace hm := hk5 _ _ (by omega) hm
            replace h9 := hk5 _ _ (by omega) h9
            replace HKA := HKA.chg hk5 (by omega) (by omega)
            first | refine q_nil0 ?_ | refine q_nil ?_
            refine AWp.exit ?_
            refine AWp.region E_ok.ok ?_
            refine s_pure rfl rfl (pv_add rfl rfl (by omega) (by omega)) ?_
            refine s_pure rfl rfl (pv_mov rfl) ?_
            refine s_nil ?_
            first
              | exact ⟨⟨(j + 1, _, es2, A5), by dsimp only; omega, hb, hm, hes, hg5', h9, hcs', HKA, by dsimp only; omega⟩, by dsimp only; omega, Weak.frL rfl ⟨rfl, rfl, rfl, rfl, rfl, rfl, rfl, trivial⟩⟩
              | exact ⟨⟨(j + 1, cs4, es3, A6), by dsimp only; omega, hb, hm, hes, hl, h9, hcs, HKA, by dsimp only; omega⟩, by dsimp only; omega, Weak.frL rfl ⟨rfl, rfl, rfl, rfl, rfl, rfl, rfl, trivial⟩⟩
          · intro h14x2
            refine s_nil ?_
            refine AWp.cond (b := false) rfl (fun h => by cases h) (fun _ => ?_)
            refine AWp.skip ?_
            refine AWp.seq ?_
            refine AWp.region E_ok.ok ?_
            refine s_pure rfl rfl (pv_mov rfl) ?_
            refine s_pure rfl rfl (pv_mov rfl) ?_
            have hL0 : ¬ L = 0 := by omega
            obtain ⟨y, hy⟩ := get_some (show m.toNat < nodes.length by have := (M3 (by omega)).1; omega)
            have hylev := (M3 (by omega)).2 y hy
            have hmm : m = (m.toNat : Nat) := by omega
            have hcall := ih m.toNat y A3 βb βm es2 hy (by omega) hb hm hbm (by have := HKA.next; omega) (by have := HKA.next; omega) hes
            rw [← hmm] at hcall
            refine s_call rfl rfl rfl hcall ?_
            rintro r A4 ⟨⟨es3, hm4, hes3⟩, HK4, y', capk, csk, hy', rfl, hcsk⟩
            rw [hy] at hy'
            obtain rfl := Option.some.inj hy'
            rw [show y.level.toNat = L by omega] at hcsk
            replace hb := HK4.get _ _ (by omega) (by have := HKA.next; omega) hb
            replace hl := HK4.get _ _ (by omega) (by omega) hl
            replace h9 := HK4.get _ _ (by omega) (by omega) h9
            replace HKA := HKA.trans HK4
            have hn4 := HK4.next
            clear hm hes hcall
            first | refine s_pure rfl rfl (pv_len T37 rfl rfl) ?_ | refine s_pure rfl rfl (pv_len_sl T37 rfl rfl) ?_
            refine s_pure rfl rfl (pv_mov rfl) ?_
            refine s_nil ?_
            refine AWp.block ?_
            have hq0 : IsBs ((List.range S).map fun s => if s < 0 then ((x.next.take (j + 1)).map (con (wl nodes L) L s)).sum else ((x.next.take j).map (con (wl nodes L) L s)).sum) cs2 := by
              simpa using hcs
            refine AWp.loop (σ := {s : Nat × List AV × AH // s.1 ≤ S ∧ s.2.2.get βb = some (.cells [.int .i64 (S : Int), .vec hnl hood.length hcap (hood.flatMap encPt), .vec nnl nodes.length ncap (nodes.flatMap encNd), .map βm]) ∧ s.2.2.get βm = some (.map es3) ∧
                s.2.2.get A.next = some (.cells s.2.1) ∧ s.2.2.get β9 = some (.cells (encNd x)) ∧ IsBs ((List.range S).map fun s' => if s' < s.1 then ((x.next.take (j + 1)).map (con (wl nodes L) L s')).sum else ((x.next.take j).map (con (wl nodes L) L s')).sum) s.2.1 ∧ HK βm A s.2.2 ∧ β9 < s.2.2.next})
              (fun s => frL 101 [(0, .ptr βb 0), (1, .int .i64 i), (7, .slice A.next 0 S (some S) 2), (9, .ptr β9 0), (50, .vec x.nl x.next.length x.cap (x.next.map (.int .i64))), (51, .int .i64 x.next.length), (52, .int .i64 j), (73, .vec false S capk csk), (74, .int .i64 S), (75, .int .i64 s.1.1)]) (fun s => s.1.2.2) (fun s => S - s.1.1)
              ⟨(0, cs2, A4), Nat.zero_le _, hb, hm4, hl, h9, hq0, HKA, by dsimp only; omega⟩ (Weak.frL rfl ⟨rfl, rfl, rfl, rfl, rfl, rfl, rfl, rfl, rfl, rfl, trivial⟩) ?_
            clear hb hm4 hl h9 hq0 HKA hcs HK4 hn4 hn3
            rintro ⟨⟨q, cs4, A6⟩, hq, hb, hm, hl, h9, hcs, HKA, hn6⟩
            dsimp only at hq hb hm hl h9 hcs HKA hn6 ⊢
            refine AWp.seq ?_
            refine AWp.region E_ok.ok ?_
            refine s_splitP rfl rfl (pv_int rfl rfl rfl) decide_eq_true_iff ?_ ?_
            · intro h17x0
              have hqS : q < S := by omega
              have hqq : (q : Int) = q := rfl
              obtain ⟨nle, cape, reste, hdrope⟩ := hcsk.dropI hqq (get_range hqS)
              obtain ⟨nlo, capo, resto, hdrop⟩ := hcs.get (get_range hqS)
              rw [if_neg (Nat.lt_irrefl q)] at hdrop
              have hb1 := hsumb q j
              have hb2 : wl nodes L m.toNat q ≤ 8 ^ 25 := Nat.le_trans (wl_le hn8 _ _ _) (Nat.pow_le_pow_right (by decide) (by omega))
              have hdrop' : cs4.drop (0 + (q : Int).toNat * ty42.size) = .bool false :: vU nlo capo (PB.dig WD (((x.next.take j).map (con (wl nodes L) L q)).sum)) :: resto := by
                rw [Nat.zero_add]; exact hdrop
              refine s_nil ?_
              refine AWp.seq ?_
              refine AWp.cond (b := true) rfl (fun _ => ?_) (fun h => by cases h)
              refine AWp.skip ?_
              refine AWp.seq ?_
              refine AWp.block ?_
              refine AWp.seq ?_
              refine AWp.region E_ok.ok ?_
              refine s_pure rfl rfl (pv_mov rfl) ?_
              first | refine s_pure rfl rfl (pv_idx T37 rfl T42 rfl rfl (by omega) (by omega) (hdrope)) ?_ | refine s_pure rfl rfl (pv_idx_sl T37 rfl T42 rfl rfl (by omega) (by omega)) ?_
              first | refine s_imm rfl rfl (rv_loadi rfl (part_agg T42 rfl rfl rfl)) ?_ | refine s_read rfl rfl (rv_load rfl) h9 (part_agg T42 rfl rfl rfl) ?_ | refine s_read rfl rfl (rv_load rfl) hl (part_agg T42 rfl rfl rfl) ?_ | refine s_read rfl rfl (rv_load rfl) hm (part_agg T42 rfl rfl rfl) ?_ | refine s_read rfl rfl (rv_load rfl) hb (part_agg T42 rfl rfl rfl) ?_
              refine s_newG rfl rfl (nv_alloc T42 rfl) ?_
              intro A18x3 hn18x3 hg18x3 hk18x3
              replace hb := hk18x3 _ _ (by omega) hb
              replace hm := hk18x3 _ _ (by omega) hm
              replace hl := hk18x3 _ _ (by omega) hl
              replace h9 := hk18x3 _ _ (by omega) h9
              replace HKA := HKA.grw hk18x3 (by omega)
              refine s_pure rfl rfl (pv_asg rfl) ?_
              first | refine s_putG rfl rfl (ev_store T42 rfl rfl (by intro vs h; cases h) (hg18x3) rfl (by first | exact Nat.le_of_ble_eq_true rfl | (simp; omega)) rfl) ?_ | refine s_putG rfl rfl (ev_store T42 rfl rfl (by intro vs h; cases h) (h9) rfl (by first | exact Nat.le_of_ble_eq_true rfl | (simp; omega)) rfl) ?_ | refine s_putG rfl rfl (ev_store T42 rfl rfl (by intro vs h; cases h) (hl) rfl (by first | exact Nat.le_of_ble_eq_true rfl | (simp; omega)) rfl) ?_ | refine s_putG rfl rfl (ev_store T42 rfl rfl (by intro vs h; cases h) (hm) rfl (by first | exact Nat.le_of_ble_eq_true rfl | (simp; omega)) rfl) ?_ | refine s_putG rfl rfl (ev_store T42 rfl rfl (by intro vs h; cases h) (hb) rfl (by first | exact Nat.le_of_ble_eq_true rfl | (simp; omega)) rfl) ?_
              intro A18x5 hn18x5 hg18x5 hk18x5
              first | replace hb := hk18x5 _ _ (by omega) hb | skip
              first | replace hm := hk18x5 _ _ (by omega) hm | skip
              first | replace hl := hk18x5 _ _ (by omega) hl | skip
              first | replace h9 := hk18x5 _ _ (by omega) h9 | skip
              first | replace hg18x3 := hk18x5 _ _ (by omega) hg18x3 | skip
              replace HKA := HKA.chg hk18x5 (by omega) (by omega)
              refine s_nil ?_
              refine AWp.drawq E_ok.ok (ord := [0, 1, 2, 3, 4, 5, 6, 7, 8, 9, 10, 11, 12]) (by kernel_rfl) ?_
              refine q_pure rfl rfl rfl rfl (pv_mov rfl) ?_
              refine q_pure rfl rfl rfl rfl (pv_mov rfl) ?_
              refine q_pure rfl rfl rfl rfl (pv_mov rfl) ?_
              refine q_pure rfl rfl rfl rfl (pv_mov rfl) ?_
              first | refine q_pure rfl rfl rfl rfl (pv_idx T37 rfl T42 rfl rfl (by omega) (by omega) (rfl)) ?_ | refine q_pure rfl rfl rfl rfl (pv_idx_sl T37 rfl T42 rfl rfl (by omega) (by omega)) ?_
              refine q_read rfl rfl rfl rfl (rv_load rfl) hl (part_agg T42 rfl (show (cs4.drop (0 + (q : Int).toNat * ty42.size)).take ty42.size = [.bool false, vU nlo capo (PB.dig WD (((x.next.take j).map (con (wl nodes L) L q)).sum))] by rw [hdrop']; rfl) rfl) ?_
              first | refine q_imm rfl rfl rfl rfl (rv_loadi rfl (part_agg T42 rfl rfl rfl)) ?_ | refine q_read rfl rfl rfl rfl (rv_load rfl) hg18x5 (part_agg T42 rfl rfl rfl) ?_ | refine q_read rfl rfl rfl rfl (rv_load rfl) hg18x3 (part_agg T42 rfl rfl rfl) ?_ | refine q_read rfl rfl rfl rfl (rv_load rfl) h9 (part_agg T42 rfl rfl rfl) ?_ | refine q_read rfl rfl rfl rfl (rv_load rfl) hl (part_agg T42 rfl rfl rfl) ?_ | refine q_read rfl rfl rfl rfl (rv_load rfl) hm (part_agg T42 rfl rfl rfl) ?_ | refine q_read rfl rfl rfl rfl (rv_load rfl) hb (part_agg T42 rfl rfl rfl) ?_
              refine q_callp rfl rfl rfl rfl rfl (hadd (((x.next.take j).map (con (wl nodes L) L q)).sum) (wl nodes L m.toNat q) _ _ ⟨nlo, capo, rfl⟩ ⟨nle, cape, rfl⟩ (by have := dig_small (Nat.le_trans hb1 (by decide)); omega) (by have := dig_small (Nat.le_trans hb2 (by decide)); omega) (by have := dig_small (Nat.le_trans (Nat.add_le_add hb1 hb2) (by decide)); omega)) ?_
              rintro _ ⟨_, ⟨nlr, capr, rfl⟩, rfl⟩
              refine q_pure rfl rfl rfl rfl (pv_mov rfl) ?_
              refine q_pure rfl rfl rfl rfl (pv_ext rfl rfl) ?_
              refine q_pure rfl rfl rfl rfl (pv_ext rfl rfl) ?_
              first | refine q_pure rfl rfl rfl rfl (pv_idx T37 rfl T42 rfl rfl (by omega) (by omega) (rfl)) ?_ | refine q_pure rfl rfl rfl rfl (pv_idx_sl T37 rfl T42 rfl rfl (by omega) (by omega)) ?_
              refine q_putG0 rfl rfl rfl rfl (by kernel_rfl) (ev_store T42 rfl rfl (by intro vs h; cases h) hl rfl (by rw [hcs.len, List.length_map, List.length_range]; show 0 + (q : Int).toNat * 2 + 2 ≤ S * 2; omega) rfl) ?_
              intro A7 hn7 hg7 hk7
              have hcs' := hcs.set (k := q) (v := ((x.next.take j).map (con (wl nodes L) L q)).sum + wl nodes L m.toNat q) (nl := nlr) (cap := capr) (by simpa using hqS)
              rw [set_range] at hcs'
              have hfun : (List.range S).map (fun s => if s = q then ((x.next.take j).map (con (wl nodes L) L q)).sum + wl nodes L m.toNat q else if s < q then ((x.next.take (j + 1)).map (con (wl nodes L) L s)).sum else ((x.next.take j).map (con (wl nodes L) L s)).sum) = (List.range S).map (fun s => if s < q + 1 then ((x.next.take (j + 1)).map (con (wl nodes L) L s)).sum else ((x.next.take j).map (con (wl nodes L) L s)).sum) := by
                apply List.map_congr_left
                intro s hs
                by_cases e : s = q
                · subst e; rw [if_pos rfl, if_pos (by omega), take_sum hmj, con, if_neg hL0]
                · rw [if_neg e]
                  by_cases e2 : s < q
                  · rw [if_pos e2, if_pos (by omega)]
                  · rw [if_neg e2, if_neg (by omega)]
              rw [hfun] at hcs'
              have hg7' : A7.get A.next = some (.cells (setRange cs4 (q * 2) [.bool false, vU nlr capr (PB.dig WD (((x.next.take j).map (con (wl nodes L) L q)).sum + wl nodes L m.toNat q))])) := by
                rw [hg7, show 0 + (q : Int).toNat * ty42.size = q * 2 by show 0 + (q : Int).toNat * 2 = _; omega]; rfl
              replace hb := hk7 _ _ (by omega) hb
              replace hm := hk7 _ _ (by omega) hm
              replace h9 := hk7 _ _ (by omega) h9
              replace HKA := HKA.chg hk7 (by omega) (by omega)
              first | refine q_nil0 ?_ | refine q_nil ?_
              refine AWp.region E_ok.ok ?_
              refine s_pure rfl rfl (pv_add rfl rfl (by omega) (by omega)) ?_
              refine s_pure rfl rfl (pv_mov rfl) ?_
              refine s_nil ?_
              exact ⟨⟨(q + 1, _, A7), by dsimp only; omega, hb, hm, hg7', h9, hcs', HKA, by dsimp only; omega⟩, by dsimp only; omega, Weak.frL rfl ⟨rfl, rfl, rfl, rfl, rfl, rfl, rfl, rfl, rfl, rfl, trivial⟩⟩
            · intro h17x0
              refine s_nil ?_
              refine AWp.seq ?_
              refine AWp.cond (b := false) rfl (fun h => by cases h) (fun _ => ?_)
              refine AWp.exit ?_
              obtain rfl : q = S := by omega
              have hfin : (List.range q).map (fun s => if s < q then ((x.next.take (j + 1)).map (con (wl nodes L) L s)).sum else ((x.next.take j).map (con (wl nodes L) L s)).sum) = (List.range q).map (fun s => ((x.next.take (j + 1)).map (con (wl nodes L) L s)).sum) := by
                apply List.map_congr_left
                intro s hs
                rw [if_pos (List.mem_range.1 hs)]
              rw [hfin] at hcs
              have hes := hes3
              refine AWp.region E_ok.ok ?_
              refine s_pure rfl rfl (pv_add rfl rfl (by omega) (by omega)) ?_
              refine s_pure rfl rfl (pv_mov rfl) ?_
              refine s_nil ?_
              first
                | exact ⟨⟨(j + 1, _, es2, A5), by dsimp only; omega, hb, hm, hes, hg5', h9, hcs', HKA, by dsimp only; omega⟩, by dsimp only; omega, Weak.frL rfl ⟨rfl, rfl, rfl, rfl, rfl, rfl, rfl, trivial⟩⟩
                | exact ⟨⟨(j + 1, cs4, es3, A6), by dsimp only; omega, hb, hm, hes, hl, h9, hcs, HKA, by dsimp only; omega⟩, by dsimp only; omega, Weak.frL rfl ⟨rfl, rfl, rfl, rfl, rfl, rfl, rfl, trivial⟩⟩
        · intro h12x0
          refine s_nil ?_
          refine AWp.seq ?_
          refine AWp.cond (b := false) rfl (fun h => by cases h) (fun _ => ?_)
          refine AWp.exit ?_
          have hjS : x.next.take j = x.next := List.take_of_length_le (by omega)
          rw [hjS] at hcs
          have hfin : (List.range S).map (fun s => (x.next.map (con (wl nodes L) L s)).sum) = (List.range S).map (wl nodes x.level.toNat i) := by
            apply List.map_congr_left
            intro s hs
            rw [hL1, wl_succ hx]
          rw [hfin] at hcs
          refine AWp.freezeM (l := [(0, .ptr βb 0), (1, .int .i64 i), (7, .vec false S (some S) cs2)]) hl (by rw [hcs.len]; simp) rfl ⟨.inl rfl, .inl rfl, .inr ⟨rfl, rfl⟩, trivial⟩ ?_
          intro A8 hk8 hn8
          replace hb := hk8 _ _ (by omega) hb
          replace hm := hk8 _ _ (by omega) hm
          replace HKA := HKA.chg hk8 (by omega) (by omega)
          have hgood : Good nodes S (i : Int) (.vec false S (some S) cs2) := ⟨x, some S, cs2, hx, rfl, hcs⟩
          refine AWp.seq ?_
          refine AWp.region E_ok.ok ?_
          refine s_pure rfl rfl (pv_mov rfl) ?_
          refine s_pure rfl rfl (pv_nilc rfl) ?_
          first | refine s_pure rfl rfl (pv_fld T67 rfl rfl T65 (by decide) rfl) ?_ | refine s_pure rfl rfl (pv_fldi T67 rfl rfl T65 (by decide) rfl) ?_
          first | refine s_imm rfl rfl (rv_loadi rfl (part_sc T65 rfl rfl)) ?_ | refine s_read rfl rfl (rv_load rfl) hm (part_sc T65 rfl rfl) ?_ | refine s_read rfl rfl (rv_load rfl) hb (part_sc T65 rfl rfl) ?_
          refine s_pure rfl rfl (pv_mov rfl) ?_
          refine s_pure rfl rfl (pv_mov rfl) ?_
          refine s_putE rfl rfl (ev_mapset T65 rfl T3 rfl rfl rfl rfl hm hes hgood) ?_
          intro es9 A9 hes9 hn9 hm9 hk9
          replace HKA := HKA.chg hk9 (by omega) (by omega)
          refine s_nil ?_
          refine AWp.seq ?_
          refine AWp.region E_ok.ok ?_
          refine s_pure rfl rfl (pv_mov rfl) ?_
          refine s_pure rfl rfl (pv_asg rfl) ?_
          refine s_nil ?_
          refine AWp.ret ?_
          exact ⟨_, rfl, ⟨es9, hm9, hes9⟩, HKA, hgood⟩
end Go.Am.Seat

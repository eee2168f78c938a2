/- A part of the proof about cellularlaw49.OrphanBalanced: lemmas only; what they say is theirs alone and no condition of the claim. -/
import Derived.Test.YtjdldndhbbkflaaGreatDoorAmE
import Derived.Defers
set_option autoImplicit false
set_option linter.unusedVariables false
set_option linter.unusedSimpArgs false
noncomputable section
namespace Go.Am
open Go
open Classical

section
variable {C : Cx} {D : List Deferred} {ops : Array Oper} {ord : List Nat} {K : Fr → AH → Prop} {φ₀ : Env} {w₀ : World} {fr₀ : Fr} {S HS : Nat → Prop} {φ : Env} {bl : Nat → Nat} {a : Act} {w : World}
variable {done rest : List Nat} {s : CS} {fri : Nat → Fr} {kd : Nat → Kind} {val : Nat → Option AV}

theorem InvX.of_inv (hD : DrawOk ops ord) (h : Inv C D ops ord K φ₀ w₀ fr₀ S HS φ bl a w done rest s fri kd val) : InvX C D ops ord K φ₀ w₀ fr₀ S a w := by
  obtain ⟨d', r', s', f', k', v', h1, h2⟩ := h.advance hD
  exact ⟨HS, φ, bl, d', r', s', f', k', v', h1, h2⟩

theorem step_eff (hC : C.Ok) (hD : DrawOk ops ord) (hG : GRel C φ₀ w₀) {e : Nat} (h : Inv C D ops ord K φ₀ w₀ fr₀ S HS φ bl a w done (e :: rest) s fri kd val)
    {o : Oper} (ho : ops[e]? = some o) (hE : isE o = true) (hp : ∀ j, Pred ops e j → S j)
    (Q : Go.Exit → Act → World → Prop) : wpOp C.P ops Q e (InvX C D ops ord K φ₀ w₀ fr₀ (fun j => S j ∨ j = e)) a w := by
  have hu : ∀ id, HS id → φ id = .unborn := fun id hi => h.hidden_unborn hi
  have hrd := h.readsE hD ho hp
  have hmS : ∀ j, ((msOf ops).getD e 0).testBit j = true → S j := fun j hj => ms_closed hD.lt h.closed e hp j hj
  obtain ⟨o', ho', hfit, hw⟩ := h.wp
  rw [ho] at ho'; cases ho'
  unfold wpOp
  rw [ho]
  simp only
  rcases hw with ⟨hwf, hwp⟩ | ⟨hwt, hwp⟩
  · rw [wanted_sound' hwf hrd, if_neg (by simp)]
    refine InvX.of_inv hD (h.commitE hD ho hE hp hfit hwp ⟨fun _ _ => .inl rfl, fun _ _ _ => rfl, fun _ h => .inl h, fun _ _ h => h⟩ ⟨#[], rfl, rfl⟩ h.heap
      (fun x hx => ⟨hx, (h.hid x.1 x.2.1 x.2.2 hx).2.2.2⟩) (fun x hx _ => hx) h.hs h.hS (fun _ h => h) h.priv h.ext h.watch (fun x hx _ => hx))
  · rw [if_pos hE] at hwp
    obtain ⟨hment, hwp⟩ := hwp
    rw [wanted_sound' hwt hrd, if_pos rfl]
    left
    obtain ⟨hA1, hless, hext, hpS, hlv, him⟩ := h.promote _ hmS (fun x hx y hy => (hment x hx).2 y hy)
    -- the names of what promote speaks of
    let m := (msOf ops).getD e 0
    let HSp : Nat → Prop := fun id => ∃ j B, (j, id, B) ∈ s.hid ∧ m.testBit j = true
    let HSr : Nat → Prop := fun id => HS id ∧ ¬ HSp id
    let φe : Env := ⟨fun β => if HSp β then .live (bl β) 0 else φ β, fun b => φ₀.priv b ∨ ∃ id, HSr id ∧ b = bl id⟩
    have hHSr : ∀ id, HSr id → ∃ j B, (j, id, B) ∈ s.hid.filter (fun h => !hidIn m h) ∧ S j := by
      intro id hid
      obtain ⟨j, B, h1, h2⟩ := (h.hs id).1 hid.1
      refine ⟨j, B, List.mem_filter.2 ⟨h1, ?_⟩, h2⟩
      simp only [hidIn]
      have : ¬ m.testBit j = true := fun h3 => hid.2 ⟨j, B, h1, h3⟩
      simpa using this
    have hG' : GRel C φe w := by
      intro g cs hg
      refine CRel.ext0 (w' := w) ?_ g 0 cs (hG g cs hg)
      refine ⟨hext.mono, hext.keep, fun b hb => ?_, hext.shape⟩
      rcases hb with hb | hb
      · rcases hext.lv b hb with h1 | h1
        · exact .inl (.inl h1)
        · exact .inr h1
      · rcases hb with h1 | ⟨id, h1, rfl⟩
        · exact .inl (.inr h1)
        · obtain ⟨j, B, h2, h3⟩ := (h.hs id).1 h1.1
          exact .inr (h.hS j id B h2 h3).2.1
    have hops : OpsRel φe w (evalR C s.fr (opTmps o)) a.eval := by
      refine opsRelR hG' fun t ht v hv => ?_
      obtain ⟨x, e1, e2⟩ := hrd t (List.mem_append_left _ ht) v hv
      refine ⟨x, e1, VRel.less hless _ _ (fun id hid => ?_) e2⟩
      obtain ⟨j, B, h1, _⟩ := hHSr id hid
      exact (hment _ h1).1 t ht v hv
    have hbr : ∀ id, HSr id → w₀.heap.size ≤ bl id ∧ bl id < w.heap.size ∧ ¬ Lv φ (bl id) := fun id hid => by
      obtain ⟨j, B, h1, h2⟩ := (h.hs id).1 hid.1
      exact (h.hS j id B h1 h2).2
    have hnlv : ∀ id, HSr id → ¬ Lv φe (bl id) := by
      intro id hid hl
      rcases (hlv _).1 hl with h1 | ⟨id', h1, h2⟩
      · exact (hbr id hid).2.2 h1
      · have := h.hinj id id' hid.1 (hpS id' h1) h2
        exact hid.2 (this ▸ h1)
    -- behind the effect
    have fin : ∀ (y : Value) (φ' : Env) (v : AV) (A' : AH) (w' : World), VRel φ' w' v y → HRel φ' A' w' → Ext φe w φ' w' →
        ((∀ x ∈ s.watch.filter (fun x => !watIn m x), (A'.get x.2.1).bind x.2.2.1 = some x.2.2.2) ∧
          (∀ h ∈ s.hid.filter (fun h => !hidIn m h), A'.st h.2.1 = none ∧ h.2.1 < A'.next) ∧
          canWp C ops (msOf ops) K rest ⟨s.fr.put o.dst v, A', s.hid.filter (fun h => !hidIn m h), s.watch.filter (fun x => !watIn m x)⟩) →
        InvX C D ops ord K φ₀ w₀ fr₀ (fun j => S j ∨ j = e) (a.put o.dst y) w' := by
      intro y φ' v A' w' hv hA' hE' ⟨hk1, hk2, hk3⟩
      have hu' : ∀ id, HSr id → φ' id = .unborn := fun id hid => by
        obtain ⟨j, B, h1, _⟩ := hHSr id hid
        exact (hA'.born id).2 (hk2 _ h1).1
      have hp' : ∀ b, φ'.priv b ↔ φ₀.priv b ∨ ∃ id, HSr id ∧ b = bl id := fun b => by rw [hE'.priv]
      have hxf := ext_full (w := w') hu' hp'
      have hx : Ext0 (full φ φ₀ HS bl) w (full φ' φ₀ HSr bl) w' := by
        refine ⟨fun β hb => ?_, fun b hb hn => ?_, fun b hb => ?_, hE'.shape⟩
        · by_cases h1 : HSr β
          · left
            simp only [full]
            rw [if_pos h1, if_pos h1.1]
          · have h2 : full φ' φ₀ HSr bl β = φ' β := by simp only [full]; rw [if_neg h1]
            have h3 : φe β = full φ φ₀ HS bl β := hless.same β h1
            rw [h2, ← h3]
            rw [← h3] at hb
            exact hE'.mono β hb
        · refine hE'.keep b hb fun hl => hn ?_
          rw [full_lv hu]
          rcases (hlv b).1 hl with h1 | ⟨id, h1, h2⟩
          · exact .inl h1
          · exact .inr ⟨id, hpS id h1, h2⟩
        · rw [full_im hu' hp'] at hb
          rcases hE'.to0.im b hb with h1 | h1
          · exact .inl ((full_im hu h.priv b).2 (him b h1))
          · exact .inr h1
      refine InvX.of_inv hD (h.commitE (HS' := HSr) hD ho hE hp hfit hk3 hx (VRel.ext0 hxf _ _ hv) hA' (fun x hx => ⟨(List.mem_filter.1 hx).1, hk2 x hx⟩) (fun x hx hns => ?_) (fun id => ?_) (fun j id B hm hj => ?_)
        (fun id hid => hid.1) hp' ?_ (fun j β f v hm => hk1 _ hm) (fun x hx hns => ?_))
      · refine List.mem_filter.2 ⟨hx, ?_⟩
        simp only [hidIn]
        have : ¬ m.testBit x.1 = true := fun h3 => hns (hmS _ h3)
        simpa using this
      · constructor
        · exact fun hid => hHSr id hid
        · rintro ⟨j, B, h1, h2⟩
          obtain ⟨h3, h4⟩ := List.mem_filter.1 h1
          refine ⟨(h.hs id).2 ⟨j, B, h3, h2⟩, ?_⟩
          rintro ⟨j', B', h5, h6⟩
          have := h.hidu _ _ _ _ _ h3 h5
          subst this
          simp only [hidIn, h6, Bool.not_true] at h4
          cases h4
      · obtain ⟨h3, h4⟩ := List.mem_filter.1 hm
        obtain ⟨r1, r2, r3, r4⟩ := h.hS j id B h3 hj
        have hid : HSr id := by
          refine ⟨(h.hs id).2 ⟨j, B, h3, hj⟩, ?_⟩
          rintro ⟨j', B', h5, h6⟩
          have := h.hidu _ _ _ _ _ h3 h5
          subst this
          simp only [hidIn, h6, Bool.not_true] at h4
          cases h4
        refine ⟨r1.ext0 hx (hE'.keep _ r3 (hnlv id hid)), r2, Nat.lt_of_lt_of_le r3 hE'.size, fun hl => ?_⟩
        rcases hE'.lv _ hl with h5 | h5
        · exact hnlv id hid h5
        · omega
      · refine ⟨fun β hb => ?_, fun b hb hn => ?_, fun b hb => ?_, fun b sh hs => hE'.shape b sh (hext.shape b sh hs), Nat.le_trans hext.size hE'.size, rfl, hE'.os.trans hext.os, hE'.tape.trans hext.tape, hE'.output.trans hext.output⟩
        · have h1 : φe β = φ₀ β ∨ φe β = .gone := hext.mono β hb
          have h2 : φe β ≠ .unborn := by
            rcases h1 with h1 | h1
            · rw [h1]; exact hb
            · rw [h1]; simp
          show φ' β = φ₀ β ∨ φ' β = .gone
          rcases hE'.mono β h2 with h3 | h3
          · rw [h3]; exact h1
          · exact .inr h3
        · have h1 : ¬ Lv φe b := fun hl => (hext.lv b hl).elim hn (fun h2 => by omega)
          rw [hE'.keep b (Nat.lt_of_lt_of_le hb hext.size) h1]
          exact hext.keep b hb hn
        · rcases hE'.lv b hb with h1 | h1
          · exact hext.lv b h1
          · exact .inr (Nat.le_trans hext.size h1)
      · refine List.mem_filter.2 ⟨hx, ?_⟩
        simp only [watIn]
        have : ¬ m.testBit x.1 = true := fun h3 => hns (hmS _ h3)
        simpa using this
    unfold Oper.wp
    rcases hwp with ⟨v, A', he, hk⟩ | ⟨f, args, hf, hk⟩
    · obtain ⟨y, w', φ', hy, h1, h2, h3⟩ := effOp_sound hC hA1 hops he
      rcases hy with hy | ⟨hy, rfl⟩
      · rw [hy]; exact fin y φ' v A' w' h2 h1 h3 hk
      · rw [hy]; exact fin undef φ' v A' w' h2 h1 h3 hk
    · obtain ⟨vs, hy, hv⟩ := callA_sound (C := C) hops hf hk.1
      rw [hy]
      refine (hk.2 φe w vs hA1 hG' hv).mono fun e' w' ⟨y, φ', r, A', he, h1, h2, h3, h4⟩ => ?_
      subst he
      exact fin y φ' r A' w' h1 h2 h3 h4

theorem step_any (hC : C.Ok) (hD : DrawOk ops ord) (hG : GRel C φ₀ w₀) (h : InvX C D ops ord K φ₀ w₀ fr₀ S a w) {i : Nat} (hi : i < ops.size) (hn : ¬ S i) (hp : ∀ j, Pred ops i j → S j)
    (Q : Go.Exit → Act → World → Prop) : wpOp C.P ops Q i (InvX C D ops ord K φ₀ w₀ fr₀ (fun j => S j ∨ j = i)) a w := by
  obtain ⟨HS, φ, bl, done, rest, s, fri, kd, val, h, hh⟩ := h
  obtain ⟨o, ho⟩ : ∃ o, ops[i]? = some o := ⟨ops[i], Array.getElem?_eq_getElem hi⟩
  have hord : i ∈ ord := (hD.perm i).1 hi
  rw [h.ord] at hord
  rcases List.mem_append.1 hord with hd | hr
  · by_cases hE : isE o = true
    · exact absurd (h.eff i hd o ho hE) hn
    · exact step_old hC hD hG h hh hd ho (by simpa using hE) hn hp Q
  · cases rest with
    | nil => cases hr
    | cons e r =>
      obtain ⟨oe, hoe, hEe⟩ := hh e r rfl
      by_cases hie : i = e
      · subst hie
        exact step_eff hC hD hG h hoe hEe hp Q
      · have hir : i ∈ r := by
          rcases List.mem_cons.1 hr with h1 | h1
          · exact absurd h1 hie
          · exact h1
        have h1 := hD.eord done e r oe h.ord hoe hEe i hir
        have h2 := ms_closed hD.lt h.closed i hp e h1
        have h3 := h.sub e h2
        have := hD.nodup
        rw [h.ord, List.nodup_append] at this
        exact absurd rfl (this.2.2 e h3 e (by simp))

/-- all has been carried out -/
theorem InvX.finish (hC : C.Ok) (h : InvX C D ops ord K φ₀ w₀ fr₀ S a w) (hall : ∀ i, i < ops.size → S i) {Q : Go.Exit → Fr → AH → Prop} (hK : ∀ fr A, K fr A → Q .normal fr A) (hDo : DrawOk ops ord) :
    Post C D φ₀ w₀ Q .normal a w := by
  obtain ⟨HS, φ, bl, done, rest, s, fri, kd, val, h, hh⟩ := h
  have hr : rest = [] := by
    cases rest with
    | nil => rfl
    | cons e r =>
      exfalso
      obtain ⟨oe, hoe, hEe⟩ := hh e r rfl
      have he : e < ops.size := by
        rcases Nat.lt_or_ge e ops.size with x | x
        · exact x
        · rw [Array.getElem?_eq_none x] at hoe; cases hoe
      have h3 := h.sub e (hall e he)
      have := hDo.nodup
      rw [h.ord, List.nodup_append] at this
      exact this.2.2 e h3 e (by simp) rfl
  subst hr
  have hdone : ∀ i, i ∈ done → S i := fun i hi => by
    refine hall i ((hDo.perm i).2 ?_)
    rw [h.ord]; simpa using hi
  have hHS : ∀ j id B, (j, id, B) ∈ s.hid → S j := fun j id B hm => hdone j (h.hid j id B hm).1
  -- all hidden blocks come to light
  let m := 2 ^ ops.size - 1
  have hm : ∀ j, j < ops.size → m.testBit j = true := fun j hj => by
    show (2 ^ ops.size - 1).testBit j = true
    rw [Nat.testBit_two_pow_sub_one]; simpa using hj
  have hmS : ∀ j, m.testBit j = true → S j := fun j hj => by
    have h1 : (2 ^ ops.size - 1).testBit j = true := hj
    rw [Nat.testBit_two_pow_sub_one] at h1
    exact hall j (by simpa using h1)
  have hjlt : ∀ x ∈ s.hid, x.1 < ops.size := fun x hx => by
    obtain ⟨_, ⟨o, ho, _⟩, _⟩ := h.hid x.1 x.2.1 x.2.2 hx
    rcases Nat.lt_or_ge x.1 ops.size with y | y
    · exact y
    · rw [Array.getElem?_eq_none y] at ho; cases ho
  have hfil : s.hid.filter (hidIn m) = s.hid := by
    rw [List.filter_eq_self]
    exact fun x hx => hm _ (hjlt x hx)
  have hfil2 : s.hid.filter (fun h => !hidIn m h) = [] := by
    rw [List.filter_eq_nil_iff]
    intro x hx
    simp only [hidIn, hm _ (hjlt x hx)]
    simp
  obtain ⟨hA1, hless, hext, hpS, hlv, him⟩ := h.promote m hmS (by rw [hfil2]; simp)
  rw [hfil] at hA1
  have hnr : ∀ id, ¬ (HS id ∧ ¬ ∃ j B, (j, id, B) ∈ s.hid ∧ m.testBit j = true) := by
    rintro id ⟨h1, h2⟩
    obtain ⟨j, B, h3, h4⟩ := (h.hs id).1 h1
    exact h2 ⟨j, B, h3, hm j (hjlt _ h3)⟩
  -- the environment at the end
  let φe : Env := ⟨fun β => if ∃ j B, (j, β, B) ∈ s.hid ∧ m.testBit j = true then .live (bl β) 0 else φ β, φ₀.priv⟩
  have hpr : (fun b => φ₀.priv b ∨ ∃ id, (HS id ∧ ¬ ∃ j B, (j, id, B) ∈ s.hid ∧ m.testBit j = true) ∧ b = bl id) = φ₀.priv := by
    funext b
    apply propext
    constructor
    · rintro (h1 | ⟨id, h1, _⟩)
      · exact h1
      · exact absurd h1 (hnr id)
    · exact .inl
  rw [hpr] at hA1 hless
  have hwp : K s.fr (promo s.hid s.A) := h.wp
  refine ⟨s.fr, promo s.hid s.A, φe, hA1, ⟨by rw [h.frn]; exact h.asz, fun t v hv => ?_⟩, h.defers, hext, hK _ _ hwp⟩
  have hto : ∀ x, VRel (full φ φ₀ HS bl) w v x → VRel φe w v x := fun x hx => VRel.less hless _ _ (fun id hid => absurd hid (hnr id)) hx
  rcases h.cf t v hv with ⟨k, hk, ok, h1, h2, h3⟩ | ⟨h1, h2⟩
  · obtain ⟨x, e1, e2⟩ := h.t1 k (hdone k hk) ok t v h1 h2 h3
    exact ⟨x, e1, hto x e2⟩
  · obtain ⟨x, e1, e2⟩ := h.t0 t v h2 fun k hk ok h3 => h1 k (h.sub k hk) ok h3
    exact ⟨x, e1, hto x e2⟩
end
end Go.Am

namespace Go.Am
open Go

section
variable {C : Cx} {D : List Deferred} {ops : Array Oper} {ord : List Nat} {K : Fr → AH → Prop} {φ₀ : Env} {w₀ : World} {fr₀ : Fr}

theorem ready_iff {listed : Array Bool} (hs : listed.size = ops.size) (i : Nat) : i ∈ Region.ready .any ops listed ↔ i < ops.size ∧ listed[i]? = some false ∧ ∀ j, Pred ops i j → listed[j]? = some true := by
  unfold Region.ready
  rw [List.mem_filter, List.mem_range]
  constructor
  · rintro ⟨h1, h2⟩
    have h3 : i < listed.size := by omega
    rw [Array.getElem?_eq_getElem h1] at h2
    simp only [Option.map_some, Option.getD_some, Bool.and_eq_true, Bool.not_eq_true'] at h2
    refine ⟨h1, ?_, fun j hj => ?_⟩
    · rw [Array.getElem?_eq_getElem h3]
      have := h2.1
      rw [Array.getD_eq_getD_getElem?, Array.getElem?_eq_getElem h3] at this
      simpa using this
    · obtain ⟨o, ho, e, he, hb, rfl⟩ := hj
      rw [Array.getElem?_eq_getElem h1] at ho
      cases ho
      have h4 := h2.2
      rw [Array.all_eq_true'] at h4
      have h5 := h4 e (by simpa using he)
      rw [hb] at h5
      simp only [Bool.not_true, Bool.false_or] at h5
      rw [Array.getD_eq_getD_getElem?] at h5
      cases h6 : listed[e.on]? with
      | none => rw [h6] at h5; simp at h5
      | some b => rw [h6] at h5; simp at h5; rw [h5]
  · rintro ⟨h1, h2, h3⟩
    refine ⟨h1, ?_⟩
    rw [Array.getElem?_eq_getElem h1]
    simp only [Option.map_some, Option.getD_some, Bool.and_eq_true, Bool.not_eq_true']
    refine ⟨by rw [Array.getD_eq_getD_getElem?, h2]; rfl, ?_⟩
    rw [Array.all_eq_true']
    intro e he
    by_cases hb : Region.binds .any e = true
    · rw [hb]
      have := h3 e.on ⟨ops[i], Array.getElem?_eq_getElem h1, e, by simpa using he, hb, rfl⟩
      rw [Array.getD_eq_getD_getElem?, this]; rfl
    · simp [hb]

theorem none_ready (hD : DrawOk ops ord) {listed : Array Bool} (hs : listed.size = ops.size) (h : Region.ready .any ops listed = []) : ∀ i, i < ops.size → listed[i]? = some true := by
  intro i
  induction i using Nat.strongRecOn with
  | _ i ih =>
    intro hi
    cases hl : listed[i]? with
    | none => have := Array.getElem?_eq_none_iff.1 hl; omega
    | some b =>
      cases b with
      | true => rfl
      | false =>
        exfalso
        have : i ∈ Region.ready .any ops listed := by
          rw [ready_iff hs]
          refine ⟨hi, hl, fun j hj => ?_⟩
          have hji := hD.lt i j hj
          exact ih j hji (by omega)
        rw [h] at this
        cases this

theorem count_set : ∀ (l : List Bool) (i : Nat), l[i]? = some false → (l.set i true).countP (!·) + 1 = l.countP (!·)
  | [], i, h => by simp at h
  | b :: l, 0, h => by simp at h; subst h; simp
  | b :: l, i + 1, h => by
    have := count_set l i (by simpa using h)
    simp only [List.set_cons_succ, List.countP_cons]
    omega

theorem wpAny_of_inv (hC : C.Ok) (hD : DrawOk ops ord) (hG : GRel C φ₀ w₀) {Q : Go.Exit → Fr → AH → Prop} (hK : ∀ fr A, K fr A → Q .normal fr A) :
    ∀ (fuel : Nat) (listed : Array Bool) (a : Act) (w : World), listed.size = ops.size → listed.toList.countP (!·) = fuel →
      InvX C D ops ord K φ₀ w₀ fr₀ (fun i => listed[i]? = some true) a w → wpAny C.P .any ops (Post C D φ₀ w₀ Q) fuel listed a w := by
  intro fuel
  induction fuel with
  | zero =>
    intro listed a w hs hc h
    have hall : ∀ i, i < ops.size → listed[i]? = some true := by
      intro i hi
      cases hl : listed[i]? with
      | none => have := Array.getElem?_eq_none_iff.1 hl; omega
      | some b =>
        cases b with
        | true => rfl
        | false =>
          exfalso
          rw [List.countP_eq_zero] at hc
          have h1 : false ∈ listed.toList := List.mem_of_getElem? (by rw [Array.getElem?_toList]; exact hl)
          exact hc false h1 rfl
    refine ⟨?_, h.finish hC hall hK hD⟩
    cases hr : Region.ready .any ops listed with
    | nil => rfl
    | cons i l =>
      have h1 : i ∈ Region.ready .any ops listed := by rw [hr]; simp
      rw [ready_iff hs] at h1
      have := hall i h1.1
      rw [h1.2.1] at this
      cases this
  | succ fuel ih =>
    intro listed a w hs hc h
    refine ⟨fun hr => h.finish hC (none_ready hD hs hr) hK hD, fun i hi => ?_⟩
    rw [ready_iff hs] at hi
    obtain ⟨h1, h2, h3⟩ := hi
    refine wpOp_mono (fun a' w' h' => ?_) (step_any hC hD hG h h1 (by rw [h2]; simp) h3 _)
    refine ih (listed.setIfInBounds i true) a' w' (by simpa using hs) ?_ ?_
    · rw [Array.toList_setIfInBounds]
      have := count_set listed.toList i (by rw [Array.getElem?_toList]; exact h2)
      omega
    · have hS : (fun j => (listed.setIfInBounds i true)[j]? = some true) = (fun j => listed[j]? = some true ∨ j = i) := by
        funext j
        apply propext
        rw [Array.getElem?_setIfInBounds]
        by_cases e : i = j
        · subst e
          rw [if_pos rfl, if_pos (by omega)]
          simp
        · rw [if_neg e]
          constructor
          · exact .inl
          · rintro (h4 | h4)
            · exact h4
            · exact absurd h4.symm e
      rw [hS]
      exact h'

theorem AWp.draw (hC : C.Ok) {id : Nat} {fr : Fr} {A : AH} {Q : Go.Exit → Fr → AH → Prop} (hD : DrawOk ops ord) (h : canWp C ops (msOf ops) (Q .normal) ord ⟨fr, A, [], []⟩) : AWp C (.region id ops true) fr A Q := by
  intro D φ w a hA hG hF hDf
  have hx : Ext φ w φ { w with drawn := w.drawn + 1 } := Ext.drawn _
  have hpost : ∀ e a' w', Post C D φ { w with drawn := w.drawn + 1 } Q e a' w' → Post C D φ w Q e a' w' := fun e a' w' p => p.mono hx fun _ _ _ q => q
  have hlist : (fun i : Nat => (Array.replicate ops.size false)[i]? = some true) = fun _ => False := by
    funext i
    apply propext
    rw [Array.getElem?_replicate]
    split <;> simp
  have hG' : GRel C φ { w with drawn := w.drawn + 1 } := hG.ext hx
  have hF' := hF.ext hx
  have key : wpAny C.P .any ops (Post C D φ { w with drawn := w.drawn + 1 } Q) ops.size (Array.replicate ops.size false) a { w with drawn := w.drawn + 1 } := by
    refine wpAny_of_inv (K := Q .normal) (ord := ord) (fr₀ := fr) hC hD hG' (fun _ _ h => h) _ _ _ _ (by simp) (by simp [List.countP_replicate]) ?_
    rw [hlist]
    have hfull : full φ φ (fun _ => False) (fun _ => 0) = φ := by
      unfold full; simp
    refine InvX.of_inv (HS := fun _ => False) (φ := φ) (bl := fun _ => 0) (done := []) (rest := ord) (s := ⟨fr, A, [], []⟩) (fri := fun _ => fr) (kd := fun _ => .skip) (val := fun _ => none) hD ?_
    exact {
      ord := rfl
      p0 := hA.prv
      wp := h
      closed := fun _ _ h => h.elim
      sub := fun _ h => h.elim
      eff := fun i hi => by cases hi
      recd := fun i hi => by cases hi
      cf := fun t v hv => .inr ⟨fun k hk => (by cases hk), hv⟩
      frn := rfl
      fit := fun i hi => by cases hi
      t1 := fun k hk => hk.elim
      t0 := fun t v hv _ => by rw [hfull]; exact hF'.val t v hv
      asz := hF'.size
      defers := hDf
      heap := hA.drawn _
      hid := fun j id B hm => by cases hm
      hidu := fun j id B j' B' hm => by cases hm
      hidc := fun i hi => by cases hi
      hs := fun id => ⟨fun h => h.elim, fun ⟨j, B, hm, _⟩ => (by cases hm)⟩
      hS := fun j id B hm => by cases hm
      hinj := fun i j hi => hi.elim
      priv := fun b => ⟨.inl, fun h => h.elim (fun x => x) (fun ⟨_, h, _⟩ => h.elim)⟩
      ext := Ext.refl _ _
      watch := fun j β f v hm => by cases hm
      watc := fun i hi => by cases hi }
  exact wp_mono (wp_region_any hC.mixed key) hpost
end
end Go.Am

namespace Go.Am
open Go

/-! ## the order's check -/
def dstsOk (l : List (Oper × Nat)) : Bool := l.all fun x => l.all fun y => x.2 == y.2 || x.1.dst.isNone || x.1.dst != y.1.dst
def usesOk (ops : Array Oper) (ms : List Nat) (l : List (Oper × Nat)) : Bool :=
  l.all fun x => l.all fun y => match y.1.dst with
    | none => true
    | some d => !(rdTmps ops x.1).contains d || (x.2 != y.2 && ((ms.getD x.2 0).testBit y.2 || (ms.getD y.2 0).testBit x.2))
def edgesOk (l : List (Oper × Nat)) : Bool := l.all fun x => x.1.after.toList.all fun e => !Region.binds .any e || decide (e.on < x.2)
def linB (ms : List Nat) : List Nat → Nat → Bool
  | [], _ => true
  | i :: q, d => ((ms.getD i 0) &&& d == ms.getD i 0) && linB ms q (d ||| 2 ^ i)
def effB (ops : Array Oper) (ms : List Nat) : List Nat → Bool
  | [] => true
  | i :: q => (match ops[i]? with | some o => !isE o || q.all fun j => (ms.getD j 0).testBit i | none => true) && effB ops ms q
def nodupB : List Nat → Bool
  | [] => true
  | i :: q => !q.contains i && nodupB q
def drawOkB (ops : Array Oper) (ord : List Nat) : Bool :=
  edgesOk ops.toList.zipIdx && dstsOk ops.toList.zipIdx && usesOk ops (msOf ops) ops.toList.zipIdx && ord.all (fun i => decide (i < ops.size)) && (List.range ops.size).all (fun i => ord.contains i) &&
    nodupB ord && linB (msOf ops) ord 0 && effB ops (msOf ops) ord

theorem nodupB_sound : ∀ {l : List Nat}, nodupB l = true → l.Nodup
  | [], _ => List.nodup_nil
  | i :: q, h => by
    simp only [nodupB, Bool.and_eq_true, Bool.not_eq_true'] at h
    rw [List.nodup_cons]
    exact ⟨by simpa using h.1, nodupB_sound h.2⟩
theorem linB_sound {ms : List Nat} : ∀ {l : List Nat} {d : Nat} {p0 : List Nat}, linB ms l d = true → (∀ j, d.testBit j = true → j ∈ p0) →
    ∀ p i q, l = p ++ i :: q → ∀ j, (ms.getD i 0).testBit j = true → j ∈ p0 ++ p
  | [], d, p0, h, hd, p, i, q, e => by simp at e
  | k :: l, d, p0, h, hd, p, i, q, e => by
    simp only [linB, Bool.and_eq_true, beq_iff_eq] at h
    intro j hj
    cases p with
    | nil =>
      simp at e
      obtain ⟨rfl, rfl⟩ := e
      rw [← h.1, Nat.testBit_and, Bool.and_eq_true] at hj
      simpa using hd j hj.2
    | cons x p =>
      simp at e
      obtain ⟨rfl, rfl⟩ := e
      have := linB_sound (p0 := p0 ++ [k]) h.2 (fun j hj => by
        rw [Nat.testBit_or, Nat.testBit_two_pow, Bool.or_eq_true, decide_eq_true_eq] at hj
        rcases hj with hj | hj
        · exact List.mem_append_left _ (hd j hj)
        · simp [hj]) p i q rfl j hj
      simpa using this
theorem effB_sound {ops : Array Oper} {ms : List Nat} : ∀ {l : List Nat}, effB ops ms l = true → ∀ p i q o, l = p ++ i :: q → ops[i]? = some o → isE o = true → ∀ j ∈ q, (ms.getD j 0).testBit i = true
  | [], h, p, i, q, o, e => by simp at e
  | k :: l, h, p, i, q, o, e => by
    simp only [effB, Bool.and_eq_true] at h
    intro ho hE j hj
    cases p with
    | nil =>
      simp at e
      obtain ⟨rfl, rfl⟩ := e
      have h1 := h.1
      rw [ho] at h1
      simp only [hE, Bool.not_true, Bool.false_or, List.all_eq_true] at h1
      exact h1 j hj
    | cons x p =>
      simp at e
      obtain ⟨rfl, rfl⟩ := e
      exact effB_sound h.2 p i q o rfl ho hE j hj

theorem drawOk_of {ops : Array Oper} {ord : List Nat} (h : drawOkB ops ord = true) : DrawOk ops ord := by
  simp only [drawOkB, Bool.and_eq_true] at h
  obtain ⟨⟨⟨⟨⟨⟨⟨h1, h2⟩, h3⟩, h4⟩, h5⟩, h6⟩, h7⟩, h8⟩ := h
  have hz : ∀ (i : Nat) (o : Oper), ops[i]? = some o → (o, i) ∈ ops.toList.zipIdx := fun i o ho => by
    rw [List.mem_zipIdx_iff_getElem?, Array.getElem?_toList]; exact ho
  refine ⟨fun j i hp => ?_, fun i k oi ok d hi hk e1 e2 => ?_, fun i k oi ok d hi hk e1 hd => ?_, fun i => ⟨fun hi => ?_, fun hi => ?_⟩, nodupB_sound h6, fun p i q e j hj => ?_, fun p i q o e ho hE j hj => ?_⟩
  · obtain ⟨o, ho, e, he, hb, rfl⟩ := hp
    simp only [edgesOk, List.all_eq_true] at h1
    have := h1 _ (hz j o ho) e he
    rw [hb] at this
    simpa using this
  · simp only [dstsOk, List.all_eq_true] at h2
    have := h2 _ (hz i oi hi) _ (hz k ok hk)
    rw [e1, e2] at this
    simpa using this
  · simp only [usesOk, List.all_eq_true] at h3
    have := h3 _ (hz i oi hi) _ (hz k ok hk)
    rw [e1] at this
    have hc : (rdTmps ops oi).contains d = true := by simpa using hd
    simp only [hc, Bool.not_true, Bool.false_or, Bool.and_eq_true, bne_iff_ne, Bool.or_eq_true] at this
    exact ⟨this.1, this.2⟩
  · rw [List.all_eq_true] at h5
    simpa using h5 i (List.mem_range.2 hi)
  · rw [List.all_eq_true] at h4
    simpa using h4 i hi
  · have := linB_sound (p0 := []) h7 (fun j hj => by simp at hj) p i q e j hj
    simpa using this
  · exact effB_sound h8 p i q o e ho hE j hj

def ordOf (ords : List (Nat × List Nat)) (id n : Nat) : List Nat := match ords.lookup id with | some l => l | none => List.range n
def regionsOkB (ords : List (Nat × List Nat)) : Code → Bool
  | .region id ops true => drawOkB ops (ordOf ords id ops.size)
  | .seq a b => regionsOkB ords a && regionsOkB ords b
  | .cond _ a b => regionsOkB ords a && regionsOkB ords b
  | .block _ c => regionsOkB ords c
  | .loop c => regionsOkB ords c
  | .scope c => regionsOkB ords c
  | _ => true

/-! ## a function's begin and end -/
def enterT : List AV → Nat → Trie AV → Trie AV
  | [], _, t => t
  | v :: l, i, t => enterT l (i + 1) (t.set i (some v))
def Fr.enter (n : Nat) (args : List AV) : Fr := ⟨n, enterT args 0 .nil⟩
theorem enterT_get : ∀ (l : List AV) (k : Nat) (t : Trie AV) (i : Nat), (enterT l k t).get i = if k ≤ i ∧ i < k + l.length then l[i - k]? else t.get i
  | [], k, t, i => by simp [enterT]; omega
  | v :: l, k, t, i => by
    rw [enterT, enterT_get l (k + 1)]
    by_cases h1 : i = k
    · subst h1
      rw [if_neg (by omega), if_pos ⟨Nat.le_refl _, by simp⟩, Trie.get_set]
      simp
    · by_cases h2 : k + 1 ≤ i ∧ i < k + 1 + l.length
      · rw [if_pos h2, if_pos ⟨by omega, by simp; omega⟩, show i - k = (i - (k + 1)) + 1 by omega]
        simp
      · rw [if_neg h2, if_neg (by simp; omega), Trie.get_set, if_neg h1]
theorem Fr.enter_get (n : Nat) (args : List AV) (i : Nat) : (Fr.enter n args).get i = args[i]? := by
  show (enterT args 0 .nil).get i = _
  rw [enterT_get]
  by_cases h : i < args.length
  · rw [if_pos ⟨Nat.zero_le _, by omega⟩]; simp
  · rw [if_neg (by omega), List.getElem?_eq_none (by omega)]; rfl

def resA (C : Cx) (fr : Fr) (A : AH) : ResultVar → Option AV
  | .tmp t => fr.get t
  | .cell a t => match fr.get a with
    | some (.ptr β o) => match A.get β with
      | some (.cells cs) => partA C t cs o
      | _ => none
    | some (.iptr cs) => partA C t cs 0
    | _ => none
def retA (C : Cx) (rs : List ResultVar) (fr : Fr) (A : AH) : Option AV :=
  (omap (resA C fr A) rs).map fun vs => match vs with | [v] => v | _ => .tuple vs

section
variable {C : Cx} {φ : Env} {A : AH} {w : World} {fr : Fr}

theorem results_sound (hC : C.Ok) (hA : HRel φ A w) {tmps : Array Value} (hF : FRel φ w fr tmps) (g : ResultVar → Sem Value) (hg1 : ∀ t, g (.tmp t) = pure (tmps.getD t undef))
    (hg2 : ∀ a t, g (.cell a t) = (do loadVar t (← asAddr (tmps.getD a undef)))) : ∀ {rs : List ResultVar} {vs : List AV}, omap (resA C fr A) rs = some vs →
    ∃ us, (rs.mapM (m := Sem) g).run C.P w = .ok us w ∧ VRels φ w vs us
  | [], vs, h => by cases h; exact ⟨[], rfl, rfl⟩
  | r :: rs, vs, h => by
    simp only [omap] at h
    split at h
    · rename_i y ys e1 e2
      cases h
      obtain ⟨us, hus, hr⟩ := results_sound hC hA hF g hg1 hg2 e2
      have one : ∃ u, (g r).run C.P w = .ok u w ∧ VRel φ w y u := by
        cases r with
        | tmp t =>
          obtain ⟨x, hx, hv⟩ := hF.val t y e1
          exact ⟨x, by simp only [hg1, Array.getD_eq_getD_getElem?, hx, Option.getD_some, Sem.run_pure], hv⟩
        | cell a t =>
          simp only [resA] at e1
          split at e1
          · rename_i β o hfa
            split at e1
            · rename_i cs hg
              obtain ⟨x, hx, b', hb', hok, -⟩ := hF.val a _ hfa
              obtain ⟨b, δ, hφ, hB⟩ := hA.liveOf hg
              rw [hφ] at hok
              have hok' : b' = _ := hok
              obtain ⟨u, hu, hv⟩ := loadVar_sound hC e1 hB.cells
              refine ⟨u, ?_, hv⟩
              simp only [hg2, Array.getD_eq_getD_getElem?, hx, Option.getD_some, hb', asAddr, Sem.run_bind, Sem.run_pure, Result.andThen, hok']
              exact hu
            · cases e1
          · rename_i cs hfa
            obtain ⟨x, hx, b, o, hb', hc⟩ := hF.val a _ hfa
            obtain ⟨u, hu, hv⟩ := loadVar_sound hC e1 hc.cells
            refine ⟨u, ?_, hv⟩
            simp only [hg2, Array.getD_eq_getD_getElem?, hx, Option.getD_some, hb', asAddr, Sem.run_bind, Sem.run_pure, Result.andThen]
            exact hu
          · cases e1
      obtain ⟨u, hu, hv⟩ := one
      refine ⟨u :: us, ?_, _, _, rfl, hv, hr⟩
      rw [List.mapM_cons, Sem.run_bind]
      rw [hu]
      simp only [Result.andThen, Sem.run_bind, hus, Sem.run_pure]
    · cases h

theorem retA_sound (hC : C.Ok) (hA : HRel φ A w) {fn : Func} {tmps : Array Value} (hF : FRel φ w fr tmps) {r : AV} (h : retA C fn.results.toList fr A = some r) :
    ∃ y, (results fn tmps).run C.P w = .ok y w ∧ VRel φ w r y := by
  simp only [retA, Option.map_eq_some_iff] at h
  obtain ⟨vs, hvs, rfl⟩ := h
  obtain ⟨us, hus, hr⟩ := results_sound hC hA hF (fun
    | .tmp t => pure (tmps.getD t undef)
    | .cell a t => do loadVar t (← asAddr (tmps.getD a undef))) (fun _ => rfl) (fun _ _ => rfl) hvs
  have hl : us.length = vs.length := hr.length
  have hrun : (results fn tmps).run C.P w = .ok (if h : us.toArray.size = 1 then us.toArray[0] else .tuple us.toArray) w := by
    simp only [results, Sem.run_bind, Array.mapM_eq_mapM_toList, Sem.run_map]
    exact congrArg (fun x => (Result.andThen x fun a w' => Result.ok a.toArray w').andThen fun a w' => Sem.run C.P (pure (if h : a.size = 1 then a[0] else Value.tuple a)) w') hus
  cases vs with
  | nil =>
    cases us with
    | nil => exact ⟨_, hrun, ⟨#[], rfl, rfl⟩⟩
    | cons u us => simp at hl
  | cons v vs =>
    cases us with
    | nil => simp at hl
    | cons u us =>
      obtain ⟨u', us', e, hv, hr'⟩ := hr
      cases e
      cases vs with
      | nil =>
        have : us = [] := hr'
        subst this
        exact ⟨u, hrun, hv⟩
      | cons v' vs =>
        cases us with
        | nil => simp at hl
        | cons u2 us =>
          refine ⟨.tuple (u :: u2 :: us).toArray, ?_, _, rfl, _, _, rfl, hv, hr'⟩
          rw [hrun, dif_neg (by simp)]

def retPost (C : Cx) (fn : Func) (R : AV → AH → Prop) : Go.Exit → Fr → AH → Prop
  | .normal, fr, A | .ret, fr, A => ∃ r, retA C fn.results.toList fr A = some r ∧ R r A
  | _, _, _ => False

theorem ACall.of_body (hC : C.Ok) {f : FuncId} {fn : Func} {c : Code} {args : List AV} {R : AV → AH → Prop} (hf : C.P.funcs[f]? = some fn) (hb : fn.body = some c)
    (hn : (fn.name == "runtime.NumGoroutine") = false) (h : AWp C c (Fr.enter fn.ntmps args) A (retPost C fn R)) : ACall C f args A R := by
  refine ⟨⟨fn, c, hf, hb, hn⟩, fun φ w vs hA hG hv => ?_⟩
  refine calls_of_wp hf hb ?_
  have hF : FRel φ w (Fr.enter fn.ntmps args) (vs ++ Array.replicate (fn.ntmps - vs.size) undef) := by
    refine ⟨by simp [Fr.enter]; omega, fun i v hi => ?_⟩
    rw [Fr.enter_get] at hi
    obtain ⟨x, hx, hr⟩ := hv.get hi
    have hlt : i < vs.size := by
      rcases Nat.lt_or_ge i vs.toList.length with h | h
      · simpa using h
      · rw [List.getElem?_eq_none h] at hx; cases hx
    exact ⟨x, by rw [Array.getElem?_append_left hlt, ← Array.getElem?_toList]; exact hx, hr⟩
  refine wp_mono (h [] φ w { tmps := vs ++ Array.replicate (fn.ntmps - vs.size) undef, defers := [] } hA hG hF rfl) ?_
  rintro e a' w' ⟨fr', A', φ', h1, h2, h3, h4, h5⟩
  have fin : (∃ r, retA C fn.results.toList fr' A' = some r ∧ R r A') → a'.defers = [] ∧ ∃ v, (results fn a'.tmps).run C.P w' = .ok v w' ∧ ∃ y φ'' r A'', (Ending.returned v : Ending) = .returned y ∧ VRel φ'' w' r y ∧ HRel φ'' A'' w' ∧ Ext φ w φ'' w' ∧ R r A'' := by
    rintro ⟨r, hr, hR⟩
    obtain ⟨y, hy, hv⟩ := retA_sound hC h1 h2 hr
    exact ⟨h3, y, hy, y, φ', r, A', rfl, hv, h1, h4, hR⟩
  cases e with
  | normal => exact fin h5
  | ret => exact fin h5
  | exit id => exact h5.elim
  | goto l => exact h5.elim
  | panic ch => exact h5.elim
  | outgrown => exact h5.elim

theorem AWp.scope {c : Code} {Q : Go.Exit → Fr → AH → Prop} (h : AWp C c fr A (fun e fr A => match e with | .goto _ => False | e => Q e fr A)) : AWp C (.scope c) fr A Q := by
  intro D φ w a hA hG hF hD
  refine wp_scope_straight (wp_mono (h D φ w a hA hG hF hD) ?_)
  rintro e a' w' ⟨fr', A', φ', h1, h2, h3, h4, h5⟩
  cases e with
  | goto l => exact h5.elim
  | _ => exact ⟨fr', A', φ', h1, h2, h3, h4, h5⟩
end
end Go.Am

namespace Go.Am
open Go

/-! ## one call deferred at the begin of a function -/
def ACallD (C : Cx) (f : FuncId) (args : List AV) (A : AH) (R : AV → AH → Prop) : Prop :=
  (∃ fn c, C.P.funcs[f]? = some fn ∧ fn.body = some c ∧ (fn.name == "runtime.NumGoroutine") = false) ∧
  ∀ φ w vs, HRel φ A w → GRel C φ w → VRels φ w args vs.toList →
    CallsD C.P f vs .returning w fun e u w' => u = .returning ∧ ∃ y φ' r A', e = .returned y ∧ VRel φ' w' r y ∧ HRel φ' A' w' ∧ Ext φ w φ' w' ∧ R r A'

section
variable {C : Cx} {φ : Env} {A : AH} {w : World} {fr : Fr}

theorem FRel.enter {n : Nat} {args : List AV} {vs : Array Value} (hv : VRels φ w args vs.toList) : FRel φ w (Fr.enter n args) (vs ++ Array.replicate (n - vs.size) undef) := by
  refine ⟨by simp [Fr.enter]; omega, fun i v hi => ?_⟩
  rw [Fr.enter_get] at hi
  obtain ⟨x, hx, hr⟩ := hv.get hi
  have hlt : i < vs.size := by
    rcases Nat.lt_or_ge i vs.toList.length with h | h
    · simpa using h
    · rw [List.getElem?_eq_none h] at hx; cases hx
  exact ⟨x, by rw [Array.getElem?_append_left hlt, ← Array.getElem?_toList]; exact hx, hr⟩

theorem ACallD.of_body (hC : C.Ok) {f : FuncId} {fn : Func} {c : Code} {args : List AV} {R : AV → AH → Prop} (hf : C.P.funcs[f]? = some fn) (hb : fn.body = some c)
    (hn : (fn.name == "runtime.NumGoroutine") = false) (h : AWp C c (Fr.enter fn.ntmps args) A (retPost C fn R)) : ACallD C f args A R := by
  refine ⟨⟨fn, c, hf, hb, hn⟩, fun φ w vs hA hG hv => ?_⟩
  refine callsD_of_wp (R := fun e w' => ∃ y φ' r A', e = .returned y ∧ VRel φ' w' r y ∧ HRel φ' A' w' ∧ Ext φ w φ' w' ∧ R r A') hf hb ?_
  refine wp_mono (h [] φ w { tmps := vs ++ Array.replicate (fn.ntmps - vs.size) undef, defers := [] } hA hG (FRel.enter hv) rfl) ?_
  rintro e a' w' ⟨fr', A', φ', h1, h2, h3, h4, h5⟩
  have fin : (∃ r, retA C fn.results.toList fr' A' = some r ∧ R r A') → a'.defers = [] ∧ ∃ v, (results fn a'.tmps).run C.P w' = .ok v w' ∧ ∃ y φ'' r A'', (Ending.returned v : Ending) = .returned y ∧ VRel φ'' w' r y ∧ HRel φ'' A'' w' ∧ Ext φ w φ'' w' ∧ R r A'' := by
    rintro ⟨r, hr, hR⟩
    obtain ⟨y, hy, hv⟩ := retA_sound hC h1 h2 hr
    exact ⟨h3, y, hy, y, φ', r, A', rfl, hv, h1, h4, hR⟩
  cases e with
  | normal => exact fin h5
  | ret => exact fin h5
  | exit id => exact h5.elim
  | goto l => exact h5.elim
  | panic ch => exact h5.elim
  | outgrown => exact h5.elim

def deferA (ρ : Operand → Option AV) (op : Op) : Option (FuncId × List AV) :=
  match op with
  | .defer { callee := .value f, args, .. } => (ρ f).bind fun fv => match fv with
    | .func (.func g) first cap => (omap ρ args.toList).bind fun vs => some (g, first ++ vs ++ cap)
    | _ => none
  | _ => none

theorem deferA_sound {ρ : Operand → Option AV} {ρ' : Operand → Value} (hρ : OpsRel φ w ρ ρ') {o : Oper} {f : FuncId} {args : List AV} (h : deferA ρ o.op = some (f, args)) :
    ∃ cap dargs vs, (execOp ρ' o).run C.P w = .ok (.defer { target := .fn (.func f) cap, args := dargs }) w ∧ VRels φ w args vs.toList ∧ vs = dargs ++ cap := by
  unfold deferA at h
  unfold execOp
  split at h
  · rename_i fo ars ts e
    rw [e]
    obtain ⟨fv, hfv, h1⟩ := Option.bind_eq_some_iff.1 h
    split at h1
    · rename_i g first cap
      obtain ⟨vs, hvs, h2⟩ := Option.bind_eq_some_iff.1 h1
      cases h2
      obtain ⟨fs, cs, hfe, hfs, hcs⟩ := hρ _ _ hfv
      refine ⟨cs, fs ++ ars.map ρ', fs ++ ars.map ρ' ++ cs, ?_, ?_, rfl⟩
      · simp only [resolve, hfe, Deferred.ofValue, Sem.run_bind, Sem.run_pure, Result.andThen]
      · rw [Array.toList_append, Array.toList_append, Array.toList_map]
        exact (hfs.append (omap_ops hρ hvs)).append hcs
    · cases h1
  · cases h

theorem seqWp_app (hC : C.Ok) {D : List Deferred} {ops : Array Oper} {K : Fr → AH → Prop} {m : List Oper} {Q : Go.Exit → Act → World → Prop} {φ₀ : Env} {w₀ : World}
    (hK : ∀ fr A φ w a, K fr A → HRel φ A w → GRel C φ w → FRel φ w fr a.tmps → a.defers = D → Ext φ₀ w₀ φ w → wpList C.P ops Q m a w) : ∀ (l : List Oper) (fr : Fr) (A : AH) (φ : Env) (w : World) (a : Act),
    seqWp C ops K l fr A → HRel φ A w → GRel C φ w → FRel φ w fr a.tmps → a.defers = D → Ext φ₀ w₀ φ w → wpList C.P ops Q (l ++ m) a w
  | [], fr, A, φ, w, a, h, hA, hG, hF, hD, hE => hK fr A φ w a h hA hG hF hD hE
  | o :: rest, fr, A, φ, w, a, h, hA, hG, hF, hD, hE => by
    obtain ⟨hfit, h⟩ := h
    simp only [wpList, List.cons_append]
    cases hw : wantedA ops fr o with
    | none => rw [hw] at h; exact h.elim
    | some b =>
      rw [wantedA_sound hF hw]
      rw [hw] at h
      cases b with
      | true =>
        rw [if_pos rfl]
        left
        refine opWp_sound hC h hA hG (opsRel hG hF) fun y φ' v A' w' hv hA' hE' hk => ?_
        exact seqWp_app hC hK rest _ A' φ' w' _ hk hA' (hG.ext hE') ((hF.ext hE').put hfit hv) (by rw [Act.put_defers]; exact hD) (hE.trans hE')
      | false =>
        rw [if_neg (by simp)]
        exact seqWp_app hC hK rest _ A φ w _ h hA hG (hF.put hfit ⟨#[], rfl, rfl⟩) (by rw [Act.put_defers]; exact hD) hE

/-- at the end of a function with one deferred call -/
def leaveA (C : Cx) (fn : Func) (g : FuncId) (vs : List AV) (R : AV → AH → Prop) : Go.Exit → Fr → AH → Prop
  | .normal, fr, A | .ret, fr, A => ACallD C g vs A fun _ A' => ∃ r, retA C fn.results.toList fr A' = some r ∧ R r A'
  | _, _, _ => False
def deferThen (C : Cx) (fn : Func) (ops : Array Oper) (o : Oper) (rest : Code) (R : AV → AH → Prop) (fr : Fr) (A : AH) : Prop :=
  wantedA ops fr o = some true ∧ o.dst = none ∧ ∃ g vs, deferA (evalO C fr) o.op = some (g, vs) ∧ AWp C rest fr A (leaveA C fn g vs R)
def onlyA (next : Fr → AH → Prop) : Go.Exit → Fr → AH → Prop
  | .normal, fr, A => next fr A
  | _, _, _ => False

theorem ACall.of_defer (hC : C.Ok) {f : FuncId} {fn : Func} {pre rest : Code} {id : Nat} {ops : Array Oper} {l : List Oper} {o : Oper} {args : List AV} {R : AV → AH → Prop} (hf : C.P.funcs[f]? = some fn)
    (hb : fn.body = some (.seq pre (.seq (.region id ops false) rest))) (hl : ops.toList = l ++ [o])
    (hn : (fn.name == "runtime.NumGoroutine") = false) (h : AWp C pre (Fr.enter fn.ntmps args) A (onlyA fun fr A => seqWp C ops (deferThen C fn ops o rest R) l fr A)) : ACall C f args A R := by
  refine ⟨⟨fn, _, hf, hb, hn⟩, fun φ w vs hA hG hv => ?_⟩
  refine calls_of_wp_defers hf hb ?_
  refine wp_seq (wp_mono (h [] φ w { tmps := vs ++ Array.replicate (fn.ntmps - vs.size) undef, defers := [] } hA hG (FRel.enter hv) rfl) ?_)
  rintro e a₁ w₁ ⟨fr₁, A₁, φ₁, h1, h2, h3, h4, h5⟩
  cases e with
  | normal =>
    refine wp_seq (wp_region_list ?_)
    rw [hl]
    refine seqWp_app hC (D := []) (φ₀ := φ) (w₀ := w) (fun fr₂ A₂ φ₂ w₂ a₂ hk g1 g2 g3 g4 g5 => ?_) l fr₁ A₁ φ₁ w₁ a₁ h5 h1 (hG.ext h4) h2 h3 h4
    obtain ⟨hw, hd, g, us, hda, hrest⟩ := hk
    obtain ⟨cap, dargs, xs, hx, hxs, rfl⟩ := deferA_sound (C := C) (opsRel g2 g3) hda
    simp only [wpList]
    rw [wantedA_sound g3 hw, if_pos rfl]
    left
    unfold Oper.wp
    rw [hx]
    simp only [Oper.upon]
    rw [hd]
    show rest.wp C.P _ _ _
    refine wp_mono (hrest [{ target := .fn (.func g) cap, args := dargs }] φ₂ w₂ { a₂ with defers := { target := .fn (.func g) cap, args := dargs } :: a₂.defers } g1 g2 g3 (by simp [g4])) ?_
    rintro e a₃ w₃ ⟨fr₃, A₃, φ₃, k1, k2, k3, k4, k5⟩
    have fin : ACallD C g us A₃ (fun _ A' => ∃ r, retA C fn.results.toList fr₃ A' = some r ∧ R r A') → Leaves C.P fn a₃.tmps (fun e w' => ∃ y φ' r A', e = Ending.returned y ∧ VRel φ' w' r y ∧ HRel φ' A' w' ∧ Ext φ w φ' w' ∧ R r A') a₃.defers .returning w₃ := by
      rintro ⟨⟨fn', c', e1, e2, e3⟩, hD⟩
      rw [k3]
      refine leaves_cons (f := g) (args := dargs ++ cap) (by simp) ?_ ?_
      · simp only [invoke, callFunc, Sem.run_bind, run_program, Result.andThen, e1, e3, e2, Bool.false_eq_true, if_false, Option.isNone_some, Sem.run_pure]
      · refine CallsD.mono (hD φ₃ w₃ (dargs ++ cap) k1 (g2.ext k4) (VRels.ext k4 _ _ hxs)) ?_
        rintro e u w' ⟨rfl, y, φ', r, A', rfl, p1, p2, p3, r', p4, p5⟩
        simp only [settle, Leaves]
        obtain ⟨y', hy', hv'⟩ := retA_sound hC p2 (k2.ext p3) p4
        exact ⟨y', hy', y', φ', r', A', rfl, hv', p2, g5.trans (k4.trans p3), p5⟩
    cases e with
    | normal => exact fin k5
    | ret => exact fin k5
    | exit id => exact k5.elim
    | goto l => exact k5.elim
    | panic ch => exact k5.elim
    | outgrown => exact k5.elim
  | exit id => exact h5.elim
  | goto l => exact h5.elim
  | ret => exact h5.elim
  | panic ch => exact h5.elim
  | outgrown => exact h5.elim

def isDefer (o : Oper) : Bool := match o.op with | .defer _ => true | _ => false
def lastDefer (l : List Oper) : Option (List Oper × Oper) := match l.reverse with
  | o :: r => if isDefer o then some (r.reverse, o) else none
  | [] => none
theorem lastDefer_eq {l r : List Oper} {o : Oper} (h : lastDefer l = some (r, o)) : l = r ++ [o] := by
  unfold lastDefer at h
  split at h
  · rename_i o' r' e
    split at h
    · cases h
      have := congrArg List.reverse e
      simpa using this
    · cases h
  · cases h
def dfSplit : Code → Option (Code × Array Oper × List Oper × Oper × Code)
  | .seq pre (.seq (.region _ ops false) rest) => (lastDefer ops.toList).map fun x => (pre, ops, x.1, x.2, rest)
  | _ => none
theorem dfSplit_eq {c pre rest : Code} {ops : Array Oper} {l : List Oper} {o : Oper} (h : dfSplit c = some (pre, ops, l, o, rest)) :
    ∃ id, c = .seq pre (.seq (.region id ops false) rest) ∧ ops.toList = l ++ [o] := by
  unfold dfSplit at h
  split at h
  · rename_i pre' id ops' rest'
    simp only [Option.map_eq_some_iff] at h
    obtain ⟨x, hx, e⟩ := h
    cases e
    exact ⟨id, rfl, lastDefer_eq hx⟩
  · cases h
end
end Go.Am

namespace Go.Am
open Go

/-! ## frozen values: what lies in blocks is read out once and for all -/
def freeze : Nat → AH → AV → Option AV
  | 0, _, _ => none
  | k + 1, A, v => match v with
    | .ptr β o => match A.get β with
      | some (.cells cs) => (omap (freeze k A) (cs.drop o)).map .iptr
      | _ => none
    | .iptr cs => (omap (freeze k A) cs).map .iptr
    | .slice β o len cap es => if len = 0 then some (.vec false 0 cap []) else match A.get β with
      | some (.cells cs) => (omap (freeze k A) ((cs.drop o).take (len * es))).map (.vec false len cap)
      | _ => none
    | .vec nl len cap cs => (omap (freeze k A) cs).map (.vec nl len cap)
    | .agg cs => (omap (freeze k A) cs).map .agg
    | .tuple cs => (omap (freeze k A) cs).map .tuple
    | .iface t v => (freeze k A v).map (.iface t)
    | .func fn a b => (omap (freeze k A) a).bind fun a => (omap (freeze k A) b).map (.func fn a)
    | .map _ => none
    | v => some v

theorem freeze_sc {A : AH} : ∀ {k : Nat} {v u : AV}, freeze k A v = some u → u.sc = v.sc
  | 0, v, u, h => by simp [freeze] at h
  | k + 1, v, u, h => by
    simp only [freeze] at h
    split at h
    · split at h
      · obtain ⟨x, _, rfl⟩ := Option.map_eq_some_iff.1 h; rfl
      · cases h
    · obtain ⟨x, _, rfl⟩ := Option.map_eq_some_iff.1 h; rfl
    · split at h
      · cases h; rfl
      · split at h
        · obtain ⟨x, _, rfl⟩ := Option.map_eq_some_iff.1 h; rfl
        · cases h
    · obtain ⟨x, _, rfl⟩ := Option.map_eq_some_iff.1 h; rfl
    · obtain ⟨x, _, rfl⟩ := Option.map_eq_some_iff.1 h; rfl
    · obtain ⟨x, _, rfl⟩ := Option.map_eq_some_iff.1 h; rfl
    · obtain ⟨x, _, rfl⟩ := Option.map_eq_some_iff.1 h; rfl
    · obtain ⟨a, _, h⟩ := Option.bind_eq_some_iff.1 h
      obtain ⟨x, _, rfl⟩ := Option.map_eq_some_iff.1 h; rfl
    · cases h
    · cases h; rfl

section
variable {φ φ₂ : Env} {A : AH} {w : World}

theorem freezes_rels {k : Nat} (ih : ∀ v u y, freeze k A v = some u → VRel φ w v y → VRel φ₂ w u y) : ∀ {l m : List AV} {ys : List Value}, omap (freeze k A) l = some m → VRels φ w l ys → VRels φ₂ w m ys
  | [], m, ys, h, r => by cases h; exact r
  | c :: l, m, ys, h, ⟨y, ys', e, a, b⟩ => by
    simp only [omap] at h
    split at h
    · rename_i u us h1 h2
      cases h
      exact ⟨y, ys', e, ih c u y h1 a, freezes_rels ih h2 b⟩
    · cases h
theorem freezes_crel {k : Nat} (hI : ∀ b, Im φ₂ b → Im φ b ∧ ¬ Lv φ b) (ih : ∀ v u y, freeze k A v = some u → VRel φ w v y → VRel φ₂ w u y) (b : Nat) : ∀ {o : Nat} {l m : List AV}, omap (freeze k A) l = some m → CRel φ w b o l → CRel φ₂ w b o m
  | o, [], m, h, r => by cases h; trivial
  | o, c :: l, m, h, ⟨y, e, n, s, a, r⟩ => by
    simp only [omap] at h
    split at h
    · rename_i u us h1 h2
      cases h
      exact ⟨y, e, fun x => n (hI b x).1, by rw [freeze_sc h1]; exact s, ih c u y h1 a, freezes_crel hI ih b h2 r⟩
    · cases h
/-- cells of a live block, frozen -/
theorem freezes_cells {k : Nat} {b : Nat} (hn : ¬ Im φ₂ b) (ih : ∀ v u y, freeze k A v = some u → VRel φ w v y → VRel φ₂ w u y) : ∀ {o : Nat} {l m : List AV}, omap (freeze k A) l = some m →
    (∀ i v, l[i]? = some v → ∃ y, w.cell? ⟨b, o + i, none⟩ = some y ∧ v.sc = true ∧ VRel φ w v y) → CRel φ₂ w b o m
  | o, [], m, h, r => by cases h; trivial
  | o, c :: l, m, h, r => by
    simp only [omap] at h
    split at h
    · rename_i u us h1 h2
      cases h
      obtain ⟨y, e, s, a⟩ := r 0 c rfl
      refine ⟨y, e, hn, by rw [freeze_sc h1]; exact s, ih c u y h1 a, freezes_cells hn ih h2 fun i v hv => ?_⟩
      obtain ⟨y, e, s, a⟩ := r (i + 1) v (by simpa using hv)
      exact ⟨y, by rw [show o + 1 + i = o + (i + 1) by omega]; exact e, s, a⟩
    · cases h

theorem freeze_sound (hA : HRel φ A w) (hI : ∀ b, Im φ₂ b → Im φ b ∧ ¬ Lv φ b) : ∀ {k : Nat} (v u : AV) (y : Value), freeze k A v = some u → VRel φ w v y → VRel φ₂ w u y
  | 0, v, u, y, h, _ => by simp [freeze] at h
  | k + 1, v, u, y, h, r => by
    have ih := fun v u y => freeze_sound hA hI (k := k) v u y
    have hn : ∀ β b δ, φ β = .live b δ → ¬ Im φ₂ b := fun β b δ e x => (hI b x).2 ⟨β, δ, e⟩
    simp only [freeze] at h
    split at h
    · rename_i β o
      split at h
      · rename_i cs hg
        obtain ⟨x, hx, rfl⟩ := Option.map_eq_some_iff.1 h
        obtain ⟨b, δ, hφ, hB⟩ := hA.liveOf hg
        obtain ⟨a, e, ha, -⟩ := r
        rw [hφ] at ha
        have ha : a = ⟨b, δ + o, none⟩ := ha
        subst ha
        exact ⟨b, δ + o, e, freezes_cells (hn β b δ hφ) ih hx (hB.cells.drop o)⟩
      · cases h
    · rename_i cs
      obtain ⟨x, hx, rfl⟩ := Option.map_eq_some_iff.1 h
      obtain ⟨b, o, e, hc⟩ := r
      exact ⟨b, o, e, freezes_crel hI ih b hx hc⟩
    · rename_i β o len cap es
      split at h
      · rename_i hl
        cases h
        obtain ⟨a, c, e, ha, hlc, hcap, _, hsp⟩ := r
        subst hl
        exact ⟨some a, c, e, hlc, hcap, fun hf => (by cases hf), fun _ => ⟨a, rfl, fun _ => ⟨a.block, a.off, by rw [← hsp], trivial⟩⟩⟩
      · rename_i hl
        split at h
        · rename_i cs hg
          obtain ⟨x, hx, rfl⟩ := Option.map_eq_some_iff.1 h
          obtain ⟨b, δ, hφ, hB⟩ := hA.liveOf hg
          obtain ⟨a, c, e, ha, hlc, hcap, _⟩ := r
          rw [hφ] at ha
          have ha : a = ⟨b, δ + o, none⟩ := ha (by omega)
          subst ha
          refine ⟨some ⟨b, δ + o, none⟩, c, e, hlc, hcap, fun hf => (by cases hf), fun _ => ⟨_, rfl, fun _ => ⟨b, δ + o, rfl, freezes_cells (hn β b δ hφ) ih hx ((hB.cells.drop o).take _)⟩⟩⟩
        · cases h
    · rename_i nl len cap cs
      obtain ⟨x, hx, rfl⟩ := Option.map_eq_some_iff.1 h
      obtain ⟨a, c, e, hlc, hcap, h1, h2⟩ := r
      exact ⟨a, c, e, hlc, hcap, h1, fun hf => by obtain ⟨a', e', z⟩ := h2 hf; exact ⟨a', e', fun h0 => by obtain ⟨b, o, e, hc⟩ := z h0; exact ⟨b, o, e, freezes_crel hI ih b hx hc⟩⟩⟩
    · obtain ⟨x, hx, rfl⟩ := Option.map_eq_some_iff.1 h
      obtain ⟨vs, e, hr⟩ := r
      exact ⟨vs, e, freezes_rels ih hx hr⟩
    · obtain ⟨x, hx, rfl⟩ := Option.map_eq_some_iff.1 h
      obtain ⟨vs, e, hr⟩ := r
      exact ⟨vs, e, freezes_rels ih hx hr⟩
    · obtain ⟨x, hx, rfl⟩ := Option.map_eq_some_iff.1 h
      obtain ⟨z, e, hr⟩ := r
      exact ⟨z, e, ih _ _ _ hx hr⟩
    · obtain ⟨a, ha, h⟩ := Option.bind_eq_some_iff.1 h
      obtain ⟨x, hx, rfl⟩ := Option.map_eq_some_iff.1 h
      obtain ⟨vs, ws, e, h1, h2⟩ := r
      exact ⟨vs, ws, e, freezes_rels ih ha h1, freezes_rels ih hx h2⟩
    · cases h
    · rename_i n1 n2 n3 n4 n5 n6 n7 n8 n9
      cases h
      cases v <;> first | exact r | (exfalso; first | exact n1 _ _ rfl | exact n2 _ rfl | exact n3 _ _ _ _ _ rfl | exact n4 _ _ _ _ rfl | exact n5 _ rfl | exact n6 _ rfl | exact n7 _ _ rfl | exact n8 _ _ _ rfl | exact n9 _ rfl)
end

/-! ## a value that names no block -/
mutual
def noBlk : AV → Bool
  | .ptr _ _ => false
  | .slice _ _ _ _ _ => false
  | .map _ => false
  | .iptr cs => noBlks cs
  | .vec _ _ _ cs => noBlks cs
  | .func _ a b => noBlks a && noBlks b
  | .iface _ v => noBlk v
  | .agg cs => noBlks cs
  | .tuple cs => noBlks cs
  | _ => true
def noBlks : List AV → Bool
  | [] => true
  | c :: cs => noBlk c && noBlks cs
end
mutual
theorem noBlk_ment (i : Nat) : ∀ (v : AV), noBlk v = true → ment i v = false
  | .bool _, _ => rfl
  | .int _ _, _ => rfl
  | .str _, _ => rfl
  | .nilptr, _ => rfl
  | .ptr _ _, h => by cases h
  | .iptr cs, h => noBlks_ment i cs h
  | .slice _ _ _ _ _, h => by cases h
  | .vec _ _ _ cs, h => noBlks_ment i cs h
  | .nilmap, _ => rfl
  | .map _, h => by cases h
  | .func _ a b, h => by
    simp only [noBlk, Bool.and_eq_true] at h
    simp only [ment, noBlks_ment i a h.1, noBlks_ment i b h.2, Bool.or_self]
  | .nilFunc, _ => rfl
  | .iface _ v, h => noBlk_ment i v h
  | .nilIface, _ => rfl
  | .agg cs, h => noBlks_ment i cs h
  | .tuple cs, h => noBlks_ment i cs h
theorem noBlks_ment (i : Nat) : ∀ (l : List AV), noBlks l = true → ments i l = false
  | [], _ => rfl
  | c :: cs, h => by
    simp only [noBlks, Bool.and_eq_true] at h
    simp only [ments, noBlk_ment i c h.1, noBlks_ment i cs h.2, Bool.or_self]
end

def Cx.Plain (C : Cx) : Prop := ∀ g cs, C.G g = some cs → noBlks cs = true

/-! ## values without memory of their own -/
mutual
def flat : AV → Bool
  | .bool _ | .int _ _ | .str _ | .nilptr | .nilmap | .nilFunc | .nilIface => true
  | .vec _ _ _ [] => true
  | .agg cs => flats cs
  | .tuple cs => flats cs
  | .iface _ v => flat v
  | _ => false
def flats : List AV → Bool
  | [] => true
  | c :: cs => flat c && flats cs
end
mutual
theorem flat_rel {φ φ' : Env} {w w' : World} : ∀ (v : AV) (x : Value), flat v = true → VRel φ w v x → VRel φ' w' v x
  | .bool _, _, _, r => r
  | .int _ _, _, _, r => r
  | .str _, _, _, r => r
  | .nilptr, _, _, r => r
  | .nilmap, _, _, r => r
  | .nilFunc, _, _, r => r
  | .nilIface, _, _, r => r
  | .vec _ _ _ [], _, _, ⟨a, c, e, l, k, x, y⟩ => ⟨a, c, e, l, k, x, fun h => by obtain ⟨a', e', z⟩ := y h; exact ⟨a', e', fun hc => by obtain ⟨b, o, e, _⟩ := z hc; exact ⟨b, o, e, trivial⟩⟩⟩
  | .vec _ _ _ (_ :: _), _, h, _ => by cases h
  | .agg cs, _, h, ⟨vs, e, r⟩ => ⟨vs, e, flats_rel cs _ h r⟩
  | .tuple cs, _, h, ⟨vs, e, r⟩ => ⟨vs, e, flats_rel cs _ h r⟩
  | .iface _ v, _, h, ⟨y, e, r⟩ => ⟨y, e, flat_rel v y h r⟩
  | .ptr _ _, _, h, _ => by cases h
  | .iptr _, _, h, _ => by cases h
  | .slice _ _ _ _ _, _, h, _ => by cases h
  | .map _, _, h, _ => by cases h
  | .func _ _ _, _, h, _ => by cases h
theorem flats_rel {φ φ' : Env} {w w' : World} : ∀ (l : List AV) (x : List Value), flats l = true → VRels φ w l x → VRels φ' w' l x
  | [], _, _, r => r
  | c :: cs, _, h, ⟨y, ys, e, a, b⟩ => by
    simp only [flats, Bool.and_eq_true] at h
    exact ⟨y, ys, e, flat_rel c y h.1 a, flats_rel cs ys h.2 b⟩
end
end Go.Am

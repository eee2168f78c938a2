/- A part of the proof about cellularlaw49.OrphanBalanced: lemmas only; what they say is theirs alone and no condition of the claim. -/
import Derived.Test.YtjdldndhbbkflaaGreatDoorAmA
set_option autoImplicit false
set_option linter.unusedVariables false
set_option linter.unusedSimpArgs false
noncomputable section
namespace Go.Am
open Go
section
variable {C : Cx} {φ : Env} {w : World}

theorem asIntOf_run {P : Program} {k : IntKind} {n : Int} : (asIntOf (.int k n)).run P w = .ok (k, n) w := rfl

def ORel (φ : Env) (w : World) : Option (Option AV) → Option Value → Prop
  | none, v => v = none
  | some a, v => ∃ x, v = some x ∧ ∀ u, a = some u → VRel φ w u x

theorem bound1_sound {x : Option AV} {v : Value} {y h : Nat} {c : BoundsCode} (hb : bound1 x h = some y) (hx : ∀ u, x = some u → VRel φ w u v) {z : Nat} (hz : h ≤ z) :
    (Instr.sliceBound v z c).run C.P w = .ok y w ∧ y ≤ h := by
  unfold bound1 at hb
  split at hb
  · rename_i k i
    split at hb
    · rename_i hi
      cases hb
      obtain rfl : v = _ := hx _ rfl
      refine ⟨?_, by omega⟩
      simp only [Instr.sliceBound, Sem.run_bind, asIntOf_run, Result.andThen]
      rw [if_pos ⟨hi.1, by omega⟩]
      rfl
    · cases hb
  · cases hb

theorem aBounds_sound {len : Nat} {cap : Option Nat} {lo hi mx : Option (Option AV)} {vl vh vm : Option Value} {l h : Nat} {m : Option Nat} (isS : Bool)
    (he : aBounds len cap lo hi mx = some (l, h, m)) (hl : ORel φ w lo vl) (hh : ORel φ w hi vh) (hm : ORel φ w mx vm) {c : Nat} (hc : len ≤ c) (hcap : ∀ c0, cap = some c0 → c = c0) :
    ∃ m', (Instr.sliceBounds isS len c vl vh vm).run C.P w = .ok (l, h, m') w ∧ l ≤ h ∧ h ≤ m' ∧ m' ≤ c ∧ (∀ m0, m = some m0 → m' = m0) ∧ (mx = none → m' = c) ∧ (hi = none → h = len) := by
  have hgd : cap.getD len ≤ c := by cases cap with | none => simpa using hc | some c0 => simp [hcap c0 rfl]
  unfold aBounds at he
  cases mx with
  | some m1 =>
    obtain ⟨xm, rfl, hxm⟩ := hm
    simp only at he
    obtain ⟨m2, h2, he⟩ := Option.bind_eq_some_iff.1 he
    have := fun c => bound1_sound (C := C) (c := c) h2 hxm hgd
    cases hi with
    | none => cases he
    | some h1 =>
      obtain ⟨xh, rfl, hxh⟩ := hh
      obtain ⟨h2, hb2, he⟩ := Option.bind_eq_some_iff.1 he
      have hB := fun c => bound1_sound (C := C) (c := c) hb2 hxh (Nat.le_refl _)
      have h3 := (hB .slice3B).2
      have h4 := (this .slice3B).2
      cases lo with
      | none =>
        have : vl = none := hl
        subst this
        cases he
        refine ⟨m2, ?_, by omega, h3, by omega, fun m0 e => by cases e; rfl, by simp, by simp⟩
        cases isS <;> simp [Instr.sliceBounds, Sem.run_bind, (this _).1, (hB _).1, Result.andThen]
      | some l1 =>
        obtain ⟨xl, rfl, hxl⟩ := hl
        obtain ⟨l2, hb3, he⟩ := Option.bind_eq_some_iff.1 he
        have hD := fun c => bound1_sound (C := C) (c := c) hb3 hxl (Nat.le_refl _)
        have h5 := (hD .slice3B).2
        cases he
        refine ⟨m2, ?_, by omega, h3, by omega, fun m0 e => by cases e; rfl, by simp, by simp⟩
        cases isS <;> simp [Instr.sliceBounds, Sem.run_bind, (this _).1, (hB _).1, (hD _).1, Result.andThen]
  | none =>
    have : vm = none := hm
    subst this
    simp only at he
    obtain ⟨h2, hb2, he2⟩ := Option.bind_eq_some_iff.1 he
    clear he
    revert he2
    intro he
    cases hi with
    | none =>
      have : vh = none := hh
      subst this
      cases hb2
      cases lo with
      | none =>
        have : vl = none := hl
        subst this
        cases he
        exact ⟨c, by simp [Instr.sliceBounds], by omega, hc, Nat.le_refl _, fun m0 e => hcap _ e, fun _ => rfl, fun _ => rfl⟩
      | some l1 =>
        obtain ⟨xl, rfl, hxl⟩ := hl
        obtain ⟨l2, hb3, he⟩ := Option.bind_eq_some_iff.1 he
        have hD := fun c => bound1_sound (C := C) (c := c) hb3 hxl (Nat.le_refl _)
        cases he
        exact ⟨c, by simp [Instr.sliceBounds, (hD _).1, Result.andThen], (hD .index).2, hc, Nat.le_refl _, fun m0 e => hcap _ e, fun _ => rfl, fun _ => rfl⟩
    | some h1 =>
      obtain ⟨xh, rfl, hxh⟩ := hh
      have hB := fun c => bound1_sound (C := C) (c := c) hb2 hxh hgd
      have h3 := (hB .index).2
      cases lo with
      | none =>
        have : vl = none := hl
        subst this
        cases he
        refine ⟨c, ?_, by omega, by omega, Nat.le_refl _, fun m0 e => hcap _ e, fun _ => rfl, by simp⟩
        cases isS <;> simp [Instr.sliceBounds, (hB _).1, Result.andThen]
      | some l1 =>
        obtain ⟨xl, rfl, hxl⟩ := hl
        obtain ⟨l2, hb3, he⟩ := Option.bind_eq_some_iff.1 he
        have hD := fun c => bound1_sound (C := C) (c := c) hb3 hxl (Nat.le_refl _)
        cases he
        refine ⟨c, ?_, (hD .index).2, by omega, Nat.le_refl _, fun m0 e => hcap _ e, fun _ => rfl, by simp⟩
        cases isS <;> simp [Instr.sliceBounds, (hB _).1, (hD _).1, Result.andThen]
end
end Go.Am

namespace Go.Am
open Go
section
variable {C : Cx} {φ : Env} {w : World}

theorem aSlice_sound (hC : C.Ok) {t : TypeId} {x : AV} {vx : Value} {lo hi mx : Option (Option AV)} {vl vh vm : Option Value} {r : AV}
    (he : aSliceOp C t x lo hi mx = some r) (hx : VRel φ w x vx) (hl : ORel φ w lo vl) (hh : ORel φ w hi vh) (hm : ORel φ w mx vm) :
    ∃ y, (Instr.sliceAt t vx vl vh vm).run C.P w = .ok y w ∧ VRel φ w r y := by
  obtain ⟨ti, hti, h1⟩ := Option.bind_eq_some_iff.1 he
  clear he
  simp only [Instr.sliceAt, Sem.run_bind, run_und hC hti, Result.andThen]
  generalize hd : ti.desc = D at h1
  split at h1
  · rename_i s
    obtain rfl : vx = _ := hx
    split at h1
    · cases h1
    · rename_i hmx
      have : mx = none := by cases mx <;> simp at hmx ⊢
      subst this
      have : vm = none := hm
      subst this
      obtain ⟨⟨l, h, m⟩, hb, h2⟩ := Option.bind_eq_some_iff.1 h1
      cases h2
      obtain ⟨m', hr, _⟩ := aBounds_sound (C := C) false hb hl hh (show ORel φ w none none from rfl) (Nat.le_refl _) (by intro c0 hc; cases hc; rfl)
      refine ⟨.string (s.extract l h), ?_, rfl⟩
      simp only [Instr.slice, Sem.run_bind, run_und hC hti, hd, Result.andThen]
      simp [hr, Result.andThen]
  · rename_i e β o len cap es
    obtain ⟨ei, hei, h2⟩ := Option.bind_eq_some_iff.1 h1
    obtain ⟨⟨l, h, m⟩, hb, h3⟩ := Option.bind_eq_some_iff.1 h2
    simp only at h3
    split at h3
    case isFalse => cases h3
    rename_i hes
    cases h3
    obtain ⟨a, c, rfl, hok, hlen, hcap, hroom, hsp⟩ := hx
    obtain ⟨m', hr, hlh, hhm, hmc, hm0, hmn, hhn⟩ := aBounds_sound (C := C) true hb hl hh hm hlen hcap
    refine ⟨.slice (if m' = l then some a else some (a.add (l * ei.size))) (h - l) (m' - l), ?_, ?_⟩
    · simp only [Instr.slice, Sem.run_bind, run_und hC hti, hd, Result.andThen, hr, run_size hC hei]
      simp
    · refine ⟨if m' = l then a else a.add (l * ei.size), m' - l, ?_, ?_, by omega, ?_, ?_, by split <;> (try simp only [Addr.add]) <;> (try split) <;> first | exact hsp | rfl⟩
      · split <;> rfl
      · cases hφ : φ β with
        | unborn => rw [hφ] at hok; exact hok.elim
        | gone => trivial
        | live b δ =>
          rw [hφ] at hok
          intro hpos
          have hne : m' ≠ l := by omega
          rw [if_neg hne, hok (by omega), add_at]
          simp [Nat.add_assoc]
      · intro c0 hc0
        cases m with
        | none => cases hc0
        | some m0 => cases hc0; rw [hm0 m0 rfl]
      · intro hn
        have hcn : cap = none := by
          cases m with
          | some m0 => cases hn
          | none =>
            cases cap with
            | none => rfl
            | some c0 =>
              exfalso
              revert hb
              unfold aBounds
              cases mx with
              | none =>
                intro hb
                obtain ⟨h2, _, he⟩ := Option.bind_eq_some_iff.1 hb
                cases lo with
                | none => cases he
                | some l1 => obtain ⟨_, _, he⟩ := Option.bind_eq_some_iff.1 he; cases he
              | some m1 =>
                intro hb
                obtain ⟨m2, _, he⟩ := Option.bind_eq_some_iff.1 hb
                cases hi with
                | none => cases he
                | some h1 =>
                  obtain ⟨h2, _, he⟩ := Option.bind_eq_some_iff.1 he
                  cases lo with
                  | none => cases he
                  | some l1 => obtain ⟨_, _, he⟩ := Option.bind_eq_some_iff.1 he; cases he
        refine (hroom hcn).imp fun b δ hr hpos => ?_
        obtain ⟨t, n, e1, e2⟩ := hr (by omega)
        refine ⟨t, n, e1, ?_⟩
        rw [hes] at e2 ⊢
        have : l * ei.size + (m' - l) * ei.size = m' * ei.size := by rw [← Nat.add_mul]; congr 1; omega
        have : m' * ei.size ≤ c * ei.size := Nat.mul_le_mul_right _ hmc
        omega
  · rename_i e nl len cap cs
    obtain ⟨ei, hei, h2⟩ := Option.bind_eq_some_iff.1 h1
    obtain ⟨⟨l, h, m⟩, hb, h3⟩ := Option.bind_eq_some_iff.1 h2
    simp only at h3
    split at h3
    · rename_i hhl
      cases h3
      obtain ⟨a, c, rfl, hlen, hcap, hn, hy⟩ := hx
      obtain ⟨m', hr, hlh, hhm, hmc, hm0, hmn, hhn⟩ := aBounds_sound (C := C) true hb hl hh hm hlen hcap
      refine ⟨.slice (if m' = l then a else a.map (·.add (l * ei.size))) (h - l) (m' - l), ?_, ?_⟩
      · simp only [Instr.slice, Sem.run_bind, run_und hC hti, hd, Result.andThen, hr, run_size hC hei]
        simp
      · refine ⟨_, m' - l, rfl, by omega, ?_, ?_, ?_⟩
        · intro c0 hc0
          cases m with
          | none => cases hc0
          | some m0 => cases hc0; rw [hm0 m0 rfl]
        · intro hnl
          obtain ⟨rfl, rfl, rfl⟩ := hn hnl
          exact ⟨by split <;> rfl, by omega, by omega⟩
        · intro hnl
          obtain ⟨a', rfl, hy'⟩ := hy hnl
          by_cases hml : m' = l
          · exact ⟨a', by rw [if_pos hml], fun h0 => by omega⟩
          · obtain ⟨b, o, rfl, hc⟩ := hy' (by omega)
            exact ⟨⟨b, o + l * ei.size, none⟩, by rw [if_neg hml]; simp [add_at], fun _ => ⟨b, o + l * ei.size, rfl, (hc.drop _).take _⟩⟩
    · cases h3
  · rename_i n e β o
    obtain ⟨ei, hei, h2⟩ := Option.bind_eq_some_iff.1 h1
    obtain ⟨⟨l, h, m⟩, hb, h3⟩ := Option.bind_eq_some_iff.1 h2
    cases h3
    obtain ⟨a, rfl, hok, hsp⟩ := hx
    obtain ⟨m', hr, hlh, hhm, hmc, hm0, hmn, hhn⟩ := aBounds_sound (C := C) false hb hl hh hm (Nat.le_refl _) (by intro c0 hc; cases hc; rfl)
    refine ⟨.slice (some (if m' = l then a else a.add (l * ei.size))) (h - l) (m' - l), ?_, ?_⟩
    · simp only [Sem.run_bind, Instr.sureAddr, Sem.run_pure, Result.andThen, hr, run_size hC hei]
    · refine ⟨_, m' - l, rfl, ?_, by omega, ?_, ?_, by split <;> (try simp only [Addr.add]) <;> (try split) <;> first | exact hsp | rfl⟩
      · cases hφ : φ β with
        | unborn => rw [hφ] at hok; exact hok.elim
        | gone => trivial
        | live b δ =>
          rw [hφ] at hok
          intro hpos
          have hne : m' ≠ l := by omega
          have hok' : a = _ := hok
          rw [if_neg hne, hok', add_at]
          simp [Nat.add_assoc]
      · intro c0 hc0
        cases m with
        | none => cases hc0
        | some m0 => cases hc0; rw [hm0 m0 rfl]
      · intro hn
        exfalso
        cases m with
        | some m0 => cases hn
        | none =>
          revert hb
          unfold aBounds
          cases mx with
          | none =>
            intro hb
            obtain ⟨h2, _, he⟩ := Option.bind_eq_some_iff.1 hb
            cases lo with
            | none => cases he
            | some l1 => obtain ⟨_, _, he⟩ := Option.bind_eq_some_iff.1 he; cases he
          | some m1 =>
            intro hb
            obtain ⟨m2, _, he⟩ := Option.bind_eq_some_iff.1 hb
            cases hi with
            | none => cases he
            | some h1 =>
              obtain ⟨h2, _, he⟩ := Option.bind_eq_some_iff.1 he
              cases lo with
              | none => cases he
              | some l1 => obtain ⟨_, _, he⟩ := Option.bind_eq_some_iff.1 he; cases he
  · rename_i n e cs
    obtain ⟨ei, hei, h2⟩ := Option.bind_eq_some_iff.1 h1
    obtain ⟨⟨l, h, m⟩, hb, h3⟩ := Option.bind_eq_some_iff.1 h2
    cases h3
    obtain ⟨b, o, rfl, hc⟩ := hx
    obtain ⟨m', hr, hlh, hhm, hmc, hm0, hmn, hhn⟩ := aBounds_sound (C := C) false hb hl hh hm (Nat.le_refl _) (by intro c0 hc; cases hc; rfl)
    refine ⟨.slice (some (if m' = l then ⟨b, o, none⟩ else (Addr.mk b o none).add (l * ei.size))) (h - l) (m' - l), ?_, ?_⟩
    · simp only [Sem.run_bind, Instr.sureAddr, Sem.run_pure, Result.andThen, hr, run_size hC hei]
    · refine ⟨_, m' - l, rfl, by omega, ?_, by simp, ?_⟩
      · intro c0 hc0
        cases m with
        | none => cases hc0
        | some m0 => cases hc0; rw [hm0 m0 rfl]
      · intro _
        by_cases hml : m' = l
        · exact ⟨⟨b, o, none⟩, by rw [if_pos hml], fun h0 => by omega⟩
        · exact ⟨⟨b, o + l * ei.size, none⟩, by rw [if_neg hml, add_at], fun _ => ⟨b, o + l * ei.size, rfl, (hc.drop _).take _⟩⟩
  · cases h1

theorem addr_ok_add {β : Nat} {a : Addr} {o n : Nat} (hh : ((φ β).ok fun b δ => a = ⟨b, δ + o, none⟩) ∧ a.spot = none) : ((φ β).ok fun b δ => a.add n = ⟨b, δ + (o + n), none⟩) ∧ (a.add n).spot = none := by
  obtain ⟨h, sp⟩ := hh
  refine ⟨?_, by simp only [Addr.add]; split <;> first | exact sp | rfl⟩
  cases hφ : φ β with
  | unborn => rw [hφ] at h; exact h.elim
  | gone => trivial
  | live b δ => rw [hφ] at h; have h' : a = _ := h; show a.add n = _; rw [h', add_at, Nat.add_assoc]

theorem aFieldAddr_sound (hC : C.Ok) {t : TypeId} {x : AV} {vx : Value} {i : Nat} {r : AV} (he : aFieldAddr C t x i = some r) (hx : VRel φ w x vx) :
    ∃ y, (Instr.fieldAt t vx i).run C.P w = .ok y w ∧ VRel φ w r y := by
  obtain ⟨ti, hti, h1⟩ := Option.bind_eq_some_iff.1 he
  clear he
  simp only [Instr.fieldAt, Sem.run_bind, run_und hC hti, Result.andThen]
  generalize hd : ti.desc = D at h1
  split at h1
  · rename_i fs
    obtain ⟨f, hf, h2⟩ := Option.bind_eq_some_iff.1 h1
    obtain ⟨fi, hfi, h3⟩ := Option.bind_eq_some_iff.1 h2
    split at h3
    · cases h3
    · rename_i hz
      simp only [hf]
      split at h3
      · cases h3
        obtain ⟨a, rfl, hok⟩ := hx
        refine ⟨.pointer (some (a.add f.offset)), ?_, _, rfl, addr_ok_add hok⟩
        simp only [Sem.run_bind, Instr.sureAddr, Sem.run_pure, Result.andThen, fieldPlace, run_size hC hfi, if_neg hz]
      · cases h3
        obtain ⟨b, o, rfl, hc⟩ := hx
        refine ⟨.pointer (some ⟨b, o + f.offset, none⟩), ?_, b, o + f.offset, rfl, hc.drop _⟩
        simp only [Sem.run_bind, Instr.sureAddr, Sem.run_pure, Result.andThen, fieldPlace, run_size hC hfi, if_neg hz, add_at]
      · cases h3
  · cases h1

theorem aField_sound (hC : C.Ok) {t : TypeId} {x : AV} {vx : Value} {i : Nat} {r : AV} (he : aField C t x i = some r) (hx : VRel φ w x vx) :
    ∃ y, (Instr.field t vx i).run C.P w = .ok y w ∧ VRel φ w r y := by
  obtain ⟨ti, hti, h1⟩ := Option.bind_eq_some_iff.1 he
  clear he
  simp only [Instr.field, Sem.run_bind, run_und hC hti, Result.andThen]
  generalize hd : ti.desc = D at h1
  split at h1
  · rename_i fs cs
    obtain ⟨f, hf, h2⟩ := Option.bind_eq_some_iff.1 h1
    obtain ⟨vs, rfl, hvs⟩ := hx
    obtain ⟨y, hy, hr⟩ := part_sound hC h2 hvs
    exact ⟨y, by simp [hf, asAgg, hy, Result.andThen], hr⟩
  · cases h1

theorem aIndexAddr_sound (hC : C.Ok) {t : TypeId} {x j : AV} {vx vj : Value} {r : AV} (he : aIndexAddr C t x j = some r) (hx : VRel φ w x vx) (hj : VRel φ w j vj) :
    ∃ y, (Instr.indexAt t vx vj).run C.P w = .ok y w ∧ VRel φ w r y := by
  obtain ⟨ti, hti, h1⟩ := Option.bind_eq_some_iff.1 he
  clear he
  generalize hd : ti.desc = D at h1
  split at h1
  · rename_i e β o len cap es k i
    obtain rfl : vj = _ := hj
    obtain ⟨ei, hei, h2⟩ := Option.bind_eq_some_iff.1 h1
    split at h2
    · rename_i hi
      cases h2
      obtain ⟨a, c, rfl, hok, hlen, hcap, _, hsp⟩ := hx
      refine ⟨.pointer (some (a.add (i.toNat * ei.size))), ?_, _, rfl, addr_ok_add ⟨?_, hsp⟩⟩
      · simp only [Instr.indexAt, Sem.run_bind, asIntOf_run, run_und hC hti, hd, Result.andThen, Sem.run_pure, run_size hC hei, Sem.run_ite, if_pos hi]
      · cases hφ : φ β with
        | unborn => rw [hφ] at hok; exact hok.elim
        | gone => trivial
        | live b δ => rw [hφ] at hok; exact hok (by omega)
    · cases h2
  · rename_i e nl len cap cs k i
    obtain rfl : vj = _ := hj
    obtain ⟨ei, hei, h2⟩ := Option.bind_eq_some_iff.1 h1
    split at h2
    · rename_i hi
      cases h2
      obtain ⟨a, c, rfl, hlen, hcap, hn, hy⟩ := hx
      cases nl with
      | true => obtain ⟨_, h0, _⟩ := hn rfl; omega
      | false =>
        obtain ⟨_, rfl, hy'⟩ := hy rfl
        obtain ⟨b, o, rfl, hc⟩ := hy' (by omega)
        refine ⟨.pointer (some ⟨b, o + i.toNat * ei.size, none⟩), ?_, b, _, rfl, hc.drop _⟩
        simp only [Instr.indexAt, Sem.run_bind, asIntOf_run, run_und hC hti, hd, Result.andThen, Sem.run_pure, run_size hC hei, Sem.run_ite, if_pos hi, add_at]
    · cases h2
  · rename_i n e β o k i
    obtain rfl : vj = _ := hj
    obtain ⟨ei, hei, h2⟩ := Option.bind_eq_some_iff.1 h1
    split at h2
    · rename_i hi
      cases h2
      obtain ⟨a, rfl, hok⟩ := hx
      refine ⟨.pointer (some (a.add (i.toNat * ei.size))), ?_, _, rfl, addr_ok_add hok⟩
      simp only [Instr.indexAt, Sem.run_bind, asIntOf_run, run_und hC hti, hd, Result.andThen, Sem.run_pure, Instr.sureAddr, run_size hC hei, Sem.run_ite, if_pos hi]
    · cases h2
  · rename_i n e cs k i
    obtain rfl : vj = _ := hj
    obtain ⟨ei, hei, h2⟩ := Option.bind_eq_some_iff.1 h1
    split at h2
    · rename_i hi
      cases h2
      obtain ⟨b, o, rfl, hc⟩ := hx
      refine ⟨.pointer (some ⟨b, o + i.toNat * ei.size, none⟩), ?_, b, _, rfl, hc.drop _⟩
      simp only [Instr.indexAt, Sem.run_bind, asIntOf_run, run_und hC hti, hd, Result.andThen, Sem.run_pure, Instr.sureAddr, run_size hC hei, Sem.run_ite, if_pos hi, add_at]
    · cases h2
  · cases h1

theorem aIndex_sound (hC : C.Ok) {t : TypeId} {x j : AV} {vx vj : Value} {r : AV} (he : aIndex C t x j = some r) (hx : VRel φ w x vx) (hj : VRel φ w j vj) :
    ∃ y, (Instr.index t vx vj).run C.P w = .ok y w ∧ VRel φ w r y := by
  obtain ⟨ti, hti, h1⟩ := Option.bind_eq_some_iff.1 he
  clear he
  generalize hd : ti.desc = D at h1
  split at h1
  · rename_i n e cs k i
    obtain rfl : vj = _ := hj
    obtain ⟨ei, hei, h2⟩ := Option.bind_eq_some_iff.1 h1
    split at h2
    · rename_i hi
      obtain ⟨vs, rfl, hvs⟩ := hx
      obtain ⟨y, hy, hr⟩ := part_sound hC h2 hvs
      refine ⟨y, ?_, hr⟩
      simp only [Instr.index, Sem.run_bind, asIntOf_run, run_und hC hti, hd, Result.andThen, run_size hC hei, Sem.run_ite, if_pos hi, hy]
    · cases h2
  · rename_i s k i
    obtain rfl : vj = _ := hj
    obtain rfl : vx = _ := hx
    split at h1
    · rename_i hi
      obtain ⟨b, hb, h2⟩ := Option.bind_eq_some_iff.1 h1
      cases h2
      refine ⟨.int .u8 b.toNat, ?_, rfl⟩
      simp only [Instr.index, Sem.run_bind, asIntOf_run, run_und hC hti, hd, Result.andThen, if_pos hi, hb]
      rfl
    · cases h1
  · cases h1
end
end Go.Am

namespace Go.Am
open Go
section
variable {C : Cx} {φ : Env} {w : World}

/-- the operands, abstract and concrete -/
def OpsRel (φ : Env) (w : World) (ρ : Operand → Option AV) (ρ' : Operand → Value) : Prop := ∀ x u, ρ x = some u → VRel φ w u (ρ' x)

theorem omap_ops {ρ : Operand → Option AV} {ρ' : Operand → Value} (hρ : OpsRel φ w ρ ρ') : ∀ {l : List Operand} {vs : List AV}, omap ρ l = some vs → VRels φ w vs (l.map ρ')
  | [], vs, h => by cases h; rfl
  | x :: l, vs, h => by
    simp only [omap] at h
    split at h
    · rename_i y ys e1 e2
      cases h
      exact ⟨_, _, rfl, hρ _ _ e1, omap_ops hρ e2⟩
    · cases h

theorem run_mapM_places (hC : C.Ok) : ∀ {fs : List Field} {ps : List (Nat × Nat)}, omap (fun f : Field => (C.T f.type).map fun fi => (f.offset, fi.size)) fs = some ps →
    (fs.mapM (m := Sem) fun f => do pure (f.offset, ← sizeOf f.type)).run C.P w = .ok ps w
  | [], ps, h => by cases h; rfl
  | f :: fs, ps, h => by
    simp only [omap] at h
    split at h
    · rename_i y ys e1 e2
      cases h
      simp only [Option.map_eq_some_iff] at e1
      obtain ⟨fi, hfi, rfl⟩ := e1
      have ih := run_mapM_places hC e2
      simp only [List.mapM_cons, Sem.run_bind, run_size hC hfi, Result.andThen, Sem.run_pure, ih]
    · cases h

theorem omap_parts {ρ : Operand → Option AV} {ρ' : Operand → Value} (hρ : OpsRel φ w ρ ρ') : ∀ {l : List (Nat × Operand)} {ps : List (Nat × AV)},
    omap (fun p : Nat × Operand => (ρ p.2).map fun v => (p.1, v)) l = some ps →
    ps.map (·.1) = (l.map fun (i, x) => (i, ρ' x)).map (·.1) ∧ VRels φ w (ps.map (·.2)) ((l.map fun (i, x) => (i, ρ' x)).map (·.2))
  | [], ps, h => by cases h; exact ⟨rfl, rfl⟩
  | (i, x) :: l, ps, h => by
    simp only [omap] at h
    split at h
    · rename_i y ys e1 e2
      cases h
      simp only [Option.map_eq_some_iff] at e1
      obtain ⟨v, hv, rfl⟩ := e1
      obtain ⟨a, b⟩ := omap_parts hρ e2
      exact ⟨by simp only [List.map_cons, a], _, _, rfl, hρ _ _ hv, b⟩
    · cases h

theorem aBuild_sound (hC : C.Ok) {t : TypeId} {ps : List (Nat × AV)} {vps : Array (Nat × Value)} {r : AV} (he : aBuild C t ps = some r)
    (hi : ps.map (·.1) = vps.toList.map (·.1)) (hv : VRels φ w (ps.map (·.2)) (vps.toList.map (·.2))) :
    ∃ y, (Instr.build t vps).run C.P w = .ok y w ∧ VRel φ w r y := by
  obtain ⟨ti, hti, h1⟩ := Option.bind_eq_some_iff.1 he
  clear he
  obtain ⟨z, rz, hz⟩ := run_zero hC hti w
  have hzr := (omap_rel (φ := φ) (w := w) hz).1
  simp only [Instr.build, Sem.run_bind, rz, run_und hC hti, Result.andThen]
  generalize hd : ti.desc = D at h1
  split at h1
  · rename_i fs
    obtain ⟨places, hp, h2⟩ := Option.bind_eq_some_iff.1 h1
    simp only [Option.map_eq_some_iff] at h2
    obtain ⟨cs, hcs, rfl⟩ := h2
    obtain ⟨us, hus, hr⟩ := fill_sound hcs hzr hi hv
    refine ⟨.agg us, ?_, us, rfl, hr⟩
    have := run_mapM_places (w := w) hC hp
    rw [Sem.run_bind, Array.mapM_eq_mapM_toList, Sem.run_map, this]
    simp only [Result.andThen]
    have e : (fun x : Nat => (places.toArray)[x]?) = (fun x : Nat => places[x]?) := by funext x; simp
    rw [e, hus]
    rfl
  · rename_i n e
    obtain ⟨ei, hei, h2⟩ := Option.bind_eq_some_iff.1 h1
    simp only [Option.map_eq_some_iff] at h2
    obtain ⟨cs, hcs, rfl⟩ := h2
    obtain ⟨us, hus, hr⟩ := fill_sound hcs hzr hi hv
    refine ⟨.agg us, ?_, us, rfl, hr⟩
    simp only [Sem.run_bind, run_size hC hei, Result.andThen, hus, Sem.run_pure]
  · cases h1

theorem aUn_sound {op : UnOp} {x : AV} {vx : Value} {r : AV} (he : aUn op x = some r) (hx : VRel φ w x vx) :
    ∃ y, (Op.unary op vx).run C.P w = .ok y w ∧ VRel φ w r y := by
  unfold aUn at he
  split at he
  · obtain rfl : vx = _ := hx; cases he; exact ⟨_, rfl, rfl⟩
  · obtain rfl : vx = _ := hx; cases he; exact ⟨_, rfl, rfl⟩
  · obtain rfl : vx = _ := hx; cases he; exact ⟨_, rfl, rfl⟩
  · cases he

theorem aConvert_sound (hC : C.Ok) {s t : TypeId} {x : AV} {vx : Value} {r : AV} (he : aConvert C s t x = some r) (hx : VRel φ w x vx) :
    ∃ y, (convert s t vx).run C.P w = .ok y w ∧ VRel φ w r y := by
  obtain ⟨si, hsi, h1⟩ := Option.bind_eq_some_iff.1 he
  obtain ⟨ti, hti, h2⟩ := Option.bind_eq_some_iff.1 h1
  clear he h1
  simp only [convert, Sem.run_bind, run_und hC hsi, run_und hC hti, Result.andThen]
  generalize hd : ti.desc = D at h2
  generalize si.desc = E
  split at h2
  · obtain rfl : vx = _ := hx; cases h2; exact ⟨_, by cases E <;> rfl, rfl⟩
  · obtain rfl : vx = _ := hx; cases h2; exact ⟨_, by cases E <;> rfl, rfl⟩
  · cases h2

theorem VRel.inv_int {x : AV} {k : IntKind} {n : Int} (h : VRel φ w x (.int k n)) : x = .int k n := by
  cases x <;> simp only [VRel] at h <;> first
    | (cases h; rfl)
    | (cases h; done)
    | (obtain ⟨_, e, _⟩ := h; cases e; done)
    | (obtain ⟨_, _, e, _⟩ := h; cases e; done)
theorem VRel.inv_bool {x : AV} {b : Bool} (h : VRel φ w x (.bool b)) : x = .bool b := by
  cases x <;> simp only [VRel] at h <;> first
    | (cases h; rfl)
    | (cases h; done)
    | (obtain ⟨_, e, _⟩ := h; cases e; done)
    | (obtain ⟨_, _, e, _⟩ := h; cases e; done)
theorem VRel.inv_str {x : AV} {s : ByteArray} (h : VRel φ w x (.string s)) : x = .str s := by
  cases x <;> simp only [VRel] at h <;> first
    | (cases h; rfl)
    | (cases h; done)
    | (obtain ⟨_, e, _⟩ := h; cases e; done)
    | (obtain ⟨_, _, e, _⟩ := h; cases e; done)
theorem VRel.inv_agg {x : AV} {s : Array Value} (h : VRel φ w x (.agg s)) : ∃ cs, x = .agg cs := by
  cases x <;> simp only [VRel] at h <;> first
    | exact ⟨_, rfl⟩
    | (cases h; done)
    | (obtain ⟨_, e, _⟩ := h; cases e; done)
    | (obtain ⟨_, _, e, _⟩ := h; cases e; done)
theorem VRel.inv_nilIface {x : AV} (h : VRel φ w x .nilIface) : x = .nilIface := by
  cases x <;> simp only [VRel] at h <;> first
    | rfl
    | (cases h; done)
    | (obtain ⟨_, e, _⟩ := h; cases e; done)
    | (obtain ⟨_, _, e, _⟩ := h; cases e; done)
theorem VRel.inv_float {x : AV} {k : FloatKind} {n : Nat} (h : VRel φ w x (.float k n)) : False := by
  cases x <;> simp only [VRel] at h <;> first
    | (cases h; done)
    | (obtain ⟨_, e, _⟩ := h; cases e; done)
    | (obtain ⟨_, _, e, _⟩ := h; cases e; done)
theorem VRel.inv_complex {x : AV} {k : FloatKind} {n m : Nat} (h : VRel φ w x (.complex k n m)) : False := by
  cases x <;> simp only [VRel] at h <;> first
    | (cases h; done)
    | (obtain ⟨_, e, _⟩ := h; cases e; done)
    | (obtain ⟨_, _, e, _⟩ := h; cases e; done)

theorem eqGuard0 {op : BinOp} {t : TypeId} {xo yo : Operand} (a b : Value) (h1 : ∀ c d, ¬ (a = .agg c ∧ b = .agg d)) (h2 : ¬ (a = .nilIface ∧ b = .nilIface)) :
    (eqGuard op t xo yo a b).run C.P w = .ok () w := by
  cases op <;> first
    | rfl
    | (cases a <;> cases b <;> first | rfl | exact absurd ⟨rfl, rfl⟩ h2 | exact absurd ⟨rfl, rfl⟩ (h1 _ _))

theorem eqGuardNil {op : BinOp} {t : TypeId} {xo yo : Operand} (h : (isConst xo || isConst yo) = true) : (eqGuard op t xo yo .nilIface .nilIface).run C.P w = .ok () w := by
  cases op <;> first
    | rfl
    | (cases xo <;> cases yo <;> first | rfl | (simp [isConst] at h; done))

theorem binOp_eq {t : TypeId} {x y : AV} {vx vy : Value} (hx : VRel φ w x vx) (hy : VRel φ w y vy)
    (h1 : ∀ k a k' b, x = .int k a → y = .int k' b → False) (h2 : ∀ a b, x = .str a → y = .str b → False) :
    binOp .eql t vx vy = (do pure (.bool (← Op.equal t vx vy))) ∧ binOp .neq t vx vy = (do pure (.bool (!(← Op.equal t vx vy)))) := by
  cases vx <;> cases vy <;> first
    | exact ⟨rfl, rfl⟩
    | exact (h1 _ _ _ _ hx.inv_int hy.inv_int).elim
    | exact (h2 _ _ hx.inv_str hy.inv_str).elim
    | exact hx.inv_float.elim
    | exact hx.inv_complex.elim

theorem aEqual_plain {d : Nat} {t : TypeId} {ca cb : List AV} {b : Bool} (hb : aEqual C (d + 1) t (.agg ca) (.agg cb) = some b) : ∃ i, C.T t = some i ∧ i.plainEq = true := by
  obtain ⟨i, hi, h1⟩ := Option.bind_eq_some_iff.1 hb
  refine ⟨i, hi, ?_⟩
  generalize i.desc = D at h1
  cases D <;> simp only [reduceCtorEq] at h1
  · split at h1
    · assumption
    · cases h1
  · split at h1
    · assumption
    · cases h1

theorem aBin_sound (hC : C.Ok) {op : BinOp} {t : TypeId} {xo yo : Operand} {x y : AV} {vx vy : Value} {r : AV} (he : aBin C op t xo yo x y = some r)
    (hx : VRel φ w x vx) (hy : VRel φ w y vy) :
    ∃ z, (do eqGuard op t xo yo vx vy; binOp op t vx vy : Sem Value).run C.P w = .ok z w ∧ VRel φ w r z := by
  have guard0 := fun (vx vy : Value) h1 h2 => eqGuard0 (C := C) (w := w) (op := op) (t := t) (xo := xo) (yo := yo) vx vy h1 h2
  have hif : ∀ t', isIface C t' = true → ∃ ti ms, C.T t' = some ti ∧ ti.desc = .interface ms := by
    intro t' hI
    unfold isIface at hI
    split at hI
    · rename_i ti hti
      split at hI
      · rename_i ms hms; exact ⟨ti, ms, hti, hms⟩
      · cases hI
    · cases hI
  unfold aBin at he
  split at he
  · rename_i k a k' b
    obtain rfl : vx = _ := hx
    obtain rfl : vy = _ := hy
    have hg := guard0 (.int k a) (.int k' b) (by simp) (by simp)
    simp only [Sem.run_bind, hg, Result.andThen]
    split at he
    · rename_i hs
      exact aShift_sound t he
    · split at he
      · rename_i hk; subst hk; exact aInt_sound t he
      · cases he
  · rename_i a b
    obtain rfl : vx = _ := hx
    obtain rfl : vy = _ := hy
    simp only [Sem.run_bind, guard0 (.string a) (.string b) (by simp) (by simp), Result.andThen]
    exact aStr_sound t he
  · obtain rfl : vx = _ := hx
    obtain rfl : vy = _ := hy
    split at he
    · rename_i hc
      simp only [Bool.and_eq_true] at hc
      obtain ⟨ti, ms, hti, hms⟩ := hif t hc.2
      have hg : (eqGuard op t xo yo .nilIface .nilIface).run C.P w = .ok () w := by
        exact eqGuardNil hc.1
      have heq : (Op.equal t .nilIface .nilIface).run C.P w = .ok true w := by
        unfold Op.equal Op.maxDepth Op.equalIn
        simp only [Sem.run_bind, run_und hC hti, hms, Result.andThen]
        rfl
      simp only [Sem.run_bind, hg, Result.andThen]
      cases op <;> simp only [reduceCtorEq] at he
      · cases he; exact ⟨.bool true, by simp only [binOp, Sem.run_bind, heq, Result.andThen, Sem.run_pure], rfl⟩
      · cases he; exact ⟨.bool false, by simp only [binOp, Sem.run_bind, heq, Result.andThen, Sem.run_pure]; rfl, rfl⟩
    · cases he
  · obtain rfl : vx = _ := hx
    obtain ⟨u, rfl, _⟩ := hy
    split at he
    · rename_i hc
      obtain ⟨ti, ms, hti, hms⟩ := hif t hc
      have heq : ∀ tt, (Op.equal t .nilIface (.iface tt u)).run C.P w = .ok false w := by
        intro tt
        unfold Op.equal Op.maxDepth Op.equalIn
        simp only [Sem.run_bind, run_und hC hti, hms, Result.andThen]
        rfl
      rw [Sem.run_bind, guard0 _ _ (by simp) (by simp)]
      simp only [Result.andThen]
      cases op <;> simp only [reduceCtorEq] at he
      · cases he; exact ⟨.bool false, by simp only [binOp, Sem.run_bind, heq, Result.andThen, Sem.run_pure], rfl⟩
      · cases he; exact ⟨.bool true, by simp only [binOp, Sem.run_bind, heq, Result.andThen, Sem.run_pure]; rfl, rfl⟩
    · cases he
  · obtain rfl : vy = _ := hy
    obtain ⟨u, rfl, _⟩ := hx
    split at he
    · rename_i hc
      obtain ⟨ti, ms, hti, hms⟩ := hif t hc
      have heq : ∀ tt, (Op.equal t (.iface tt u) .nilIface).run C.P w = .ok false w := by
        intro tt
        unfold Op.equal Op.maxDepth Op.equalIn
        simp only [Sem.run_bind, run_und hC hti, hms, Result.andThen]
        rfl
      rw [Sem.run_bind, guard0 _ _ (by simp) (by simp)]
      simp only [Result.andThen]
      cases op <;> simp only [reduceCtorEq] at he
      · cases he; exact ⟨.bool false, by simp only [binOp, Sem.run_bind, heq, Result.andThen, Sem.run_pure], rfl⟩
      · cases he; exact ⟨.bool true, by simp only [binOp, Sem.run_bind, heq, Result.andThen, Sem.run_pure]; rfl, rfl⟩
    · cases he
  · rename_i hn1 hn2 hn3 hn4 hn5
    have key : ∀ b, aEqual C 10000 t x y = some b → (Op.equal t vx vy).run C.P w = .ok b w ∧ (eqGuard op t xo yo vx vy).run C.P w = .ok () w := by
      intro b hb
      refine ⟨aEqual_sound hC _ _ _ _ _ _ _ hb hx hy, ?_⟩
      by_cases hag : ∃ a b, vx = .agg a ∧ vy = .agg b
      · obtain ⟨va, vb, rfl, rfl⟩ := hag
        obtain ⟨ca, rfl⟩ := hx.inv_agg
        obtain ⟨cb, rfl⟩ := hy.inv_agg
        obtain ⟨i, hi, hp⟩ := aEqual_plain hb
        have hq := ((hC.ty t i hi).eqg hp).1
        have : (eqGuard .eql t xo yo (.agg va) (.agg vb)).run C.P w = .ok () w := by
          simp [eqGuard, hq]
        cases op <;> first | rfl | exact this
      · refine guard0 _ _ (fun a b h => hag ⟨a, b, h⟩) ?_
        rintro ⟨rfl, rfl⟩
        exact hn3 hx.inv_nilIface hy.inv_nilIface
    obtain ⟨e1, e2⟩ := binOp_eq (t := t) hx hy (fun k a k' b => by rintro rfl rfl; exact hn1 _ _ _ _ rfl rfl) (fun a b => by rintro rfl rfl; exact hn2 _ _ rfl rfl)
    split at he
    · simp only [Option.map_eq_some_iff] at he
      obtain ⟨b, hb, rfl⟩ := he
      obtain ⟨h1, h2⟩ := key b hb
      refine ⟨.bool b, ?_, rfl⟩
      rw [Sem.run_bind, h2]
      simp only [Result.andThen]
      rw [e1]
      simp only [Sem.run_bind, h1, Result.andThen, Sem.run_pure]
    · simp only [Option.map_eq_some_iff] at he
      obtain ⟨b, hb, rfl⟩ := he
      obtain ⟨h1, h2⟩ := key b hb
      refine ⟨.bool (!b), ?_, rfl⟩
      rw [Sem.run_bind, h2]
      simp only [Result.andThen]
      rw [e2]
      simp only [Sem.run_bind, h1, Result.andThen, Sem.run_pure]
    · cases he
end
end Go.Am

namespace Go.Am
open Go
section
variable {C : Cx} {φ : Env} {w : World}

theorem max2A_sound {a b r : AV} {x y : Value} (h : max2A a b = some r) (hx : VRel φ w a x) (hy : VRel φ w b y) : ∃ z, (Builtin.max2 x y).run C.P w = .ok z w ∧ VRel φ w r z := by
  unfold max2A at h
  split at h
  · obtain rfl : x = _ := hx; obtain rfl : y = _ := hy; cases h; exact ⟨_, rfl, rfl⟩
  · cases h
theorem min2A_sound {a b r : AV} {x y : Value} (h : min2A a b = some r) (hx : VRel φ w a x) (hy : VRel φ w b y) : ∃ z, (Builtin.min2 x y).run C.P w = .ok z w ∧ VRel φ w r z := by
  unfold min2A at h
  split at h
  · obtain rfl : x = _ := hx; obtain rfl : y = _ := hy; cases h; exact ⟨_, rfl, rfl⟩
  · cases h
theorem ofoldl_sound {f : AV → AV → Option AV} {g : Value → Value → Sem Value}
    (hf : ∀ a b r x y, f a b = some r → VRel φ w a x → VRel φ w b y → ∃ z, (g x y).run C.P w = .ok z w ∧ VRel φ w r z) :
    ∀ {l : List AV} {vs : List Value} {a r : AV} {x : Value}, ofoldl f a l = some r → VRel φ w a x → VRels φ w l vs → ∃ z, (vs.foldlM g x).run C.P w = .ok z w ∧ VRel φ w r z
  | [], vs, a, r, x, h, hx, hv => by
    cases h
    have : vs = [] := hv
    subst this
    exact ⟨x, rfl, hx⟩
  | c :: l, vs, a, r, x, h, hx, hv => by
    obtain ⟨v, vs', rfl, hc, hl⟩ := hv
    obtain ⟨b, hb, h2⟩ := Option.bind_eq_some_iff.1 h
    obtain ⟨z, rz, hz⟩ := hf _ _ _ _ _ hb hx hc
    obtain ⟨z', rz', hz'⟩ := ofoldl_sound hf h2 hz hl
    exact ⟨z', by simp only [List.foldlM_cons, Sem.run_bind, rz, Result.andThen, rz'], hz'⟩

theorem aBuiltin_sound (hC : C.Ok) {b : Builtin} {ts : Array TypeId} {t : TypeId} {cs : Array Bool} {args : List AV} {vs : Array Value} {r : AV}
    (he : aBuiltin C b ts args = some r) (hv : VRels φ w args vs.toList) :
    ∃ y, (builtin b ts t cs vs).run C.P w = .ok (.value y) w ∧ VRel φ w r y := by
  unfold aBuiltin at he
  split at he
  · rename_i x
    obtain ⟨v, vs', e, hx, e'⟩ := hv
    have : vs' = [] := e'
    subst this
    have hvs : vs = #[v] := by rw [← Array.toArray_toList (xs := vs), e]
    subst hvs
    obtain ⟨tt, htt, h1⟩ := Option.bind_eq_some_iff.1 he
    obtain ⟨ti, hti, h2⟩ := Option.bind_eq_some_iff.1 h1
    generalize hd : ti.desc = D at h2
    have key : ∃ y, (Builtin.len_ ts t #[v]).run C.P w = .ok y w ∧ VRel φ w r y := by
      have h0 : (#[v] : Array Value)[0]? = some v := rfl
      simp only [Builtin.len_, htt, h0, Sem.run_bind, run_und hC hti, hd, Result.andThen]
      split at h2
      · obtain rfl : v = _ := hx; cases h2; exact ⟨_, rfl, rfl⟩
      · cases h2; exact ⟨_, rfl, rfl⟩
      · obtain ⟨a, c, rfl, _⟩ := hx; cases h2; exact ⟨_, rfl, rfl⟩
      · obtain ⟨a, c, rfl, _⟩ := hx; cases h2; exact ⟨_, rfl, rfl⟩
      · obtain rfl : v = _ := hx; cases h2; exact ⟨_, rfl, rfl⟩
      · cases h2
    obtain ⟨y, ry, hy⟩ := key
    exact ⟨y, by simp only [builtin, Sem.run_bind, ry, Result.andThen, Sem.run_pure], hy⟩
  · rename_i x
    obtain ⟨v, vs', e, hx, e'⟩ := hv
    have : vs' = [] := e'
    subst this
    have hvs : vs = #[v] := by rw [← Array.toArray_toList (xs := vs), e]
    subst hvs
    obtain ⟨tt, htt, h1⟩ := Option.bind_eq_some_iff.1 he
    obtain ⟨ti, hti, h2⟩ := Option.bind_eq_some_iff.1 h1
    generalize hd : ti.desc = D at h2
    have key : ∃ y, (Builtin.cap_ ts t #[v]).run C.P w = .ok y w ∧ VRel φ w r y := by
      have h0 : (#[v] : Array Value)[0]? = some v := rfl
      simp only [Builtin.cap_, htt, h0, Sem.run_bind, run_und hC hti, hd, Result.andThen]
      split at h2
      · cases h2; exact ⟨_, rfl, rfl⟩
      · obtain ⟨a, c, rfl, _, _, hc, _⟩ := hx; cases h2; exact ⟨_, rfl, by rw [hc _ rfl]; rfl⟩
      · obtain ⟨a, c, rfl, _, hc, _⟩ := hx; cases h2; exact ⟨_, rfl, by rw [hc _ rfl]; rfl⟩
      · cases h2
    obtain ⟨y, ry, hy⟩ := key
    exact ⟨y, by simp only [builtin, Sem.run_bind, ry, Result.andThen, Sem.run_pure], hy⟩
  · rename_i x xs
    obtain ⟨v, vs', e, hx, hl⟩ := hv
    obtain ⟨z, rz, hz⟩ := ofoldl_sound (C := C) (fun a b r x y h hx hy => max2A_sound h hx hy) he hx hl
    exact ⟨z, by simp only [builtin, Builtin.max_, e, Sem.run_bind, rz, Result.andThen, Sem.run_pure], hz⟩
  · rename_i x xs
    obtain ⟨v, vs', e, hx, hl⟩ := hv
    obtain ⟨z, rz, hz⟩ := ofoldl_sound (C := C) (fun a b r x y h hx hy => min2A_sound h hx hy) he hx hl
    exact ⟨z, by simp only [builtin, Builtin.min_, e, Sem.run_bind, rz, Result.andThen, Sem.run_pure], hz⟩
  · cases he

theorem orel_map {ρ : Operand → Option AV} {ρ' : Operand → Value} (hρ : OpsRel φ w ρ ρ') (o : Option Operand) : ORel φ w (o.map ρ) (o.map ρ') := by
  cases o with
  | none => rfl
  | some x => exact ⟨_, rfl, fun u hu => hρ _ _ hu⟩

theorem lift_v {s : Sem Value} {r : AV} (h : ∃ y, s.run C.P w = .ok y w ∧ VRel φ w r y) : ∃ y, (do pure (.value (← s)) : Sem Next).run C.P w = .ok (.value y) w ∧ VRel φ w r y := by
  obtain ⟨y, ry, hy⟩ := h
  exact ⟨y, by simp only [Sem.run_bind, ry, Result.andThen, Sem.run_pure], hy⟩

theorem pureOp_sound (hC : C.Ok) {ρ : Operand → Option AV} {ρ' : Operand → Value} (hρ : OpsRel φ w ρ ρ') {o : Oper} {r : AV} (he : pureOp C ρ o.op = some r) :
    ∃ y, (execOp ρ' o).run C.P w = .ok (.value y) w ∧ VRel φ w r y := by
  unfold pureOp at he
  unfold execOp
  split at he
  · rename_i x e; rw [e]; exact ⟨_, rfl, hρ _ _ he⟩
  · rename_i x e; rw [e]; exact ⟨_, rfl, hρ _ _ he⟩
  · rename_i c a b e
    rw [e]
    obtain ⟨v, hv, h1⟩ := Option.bind_eq_some_iff.1 he
    split at h1
    · rename_i t
      have hc : ρ' c = .bool t := hρ _ _ hv
      cases t
      · exact ⟨ρ' b, by simp only [hc, asBool, Sem.run_bind, Sem.run_pure, Result.andThen]; rfl, hρ _ _ h1⟩
      · exact ⟨ρ' a, by simp only [hc, asBool, Sem.run_bind, Sem.run_pure, Result.andThen]; rfl, hρ _ _ h1⟩
    · cases h1
  · rename_i t parts e
    rw [e]
    obtain ⟨ps, hps, h1⟩ := Option.bind_eq_some_iff.1 he
    obtain ⟨hi, hv⟩ := omap_parts hρ hps
    refine lift_v (aBuild_sound hC h1 (vps := parts.map fun (i, x) => (i, ρ' x)) ?_ ?_)
    · rw [Array.toList_map]; exact hi
    · rw [Array.toList_map]; exact hv
  · rename_i x e
    rw [e]
    obtain ⟨v, hv, h1⟩ := Option.bind_eq_some_iff.1 he
    have hx := hρ _ _ hv
    split at h1
    · cases h1; obtain ⟨a, e2, hok⟩ := hx; exact ⟨.pointer (some a), by simp only [e2]; rfl, a, rfl, hok⟩
    · cases h1; obtain ⟨b, o, e2, hok⟩ := hx; exact ⟨.pointer (some ⟨b, o, none⟩), by simp only [e2]; rfl, b, o, rfl, hok⟩
    · cases h1; obtain ⟨y, e2, hok⟩ := hx; exact ⟨.iface _ y, by simp only [e2]; rfl, y, rfl, hok⟩
    · cases h1; obtain ⟨vs, ws, e2, hok⟩ := hx; exact ⟨.func _ vs ws, by simp only [e2]; rfl, vs, ws, rfl, hok⟩
    · cases h1
  · rename_i op t x y yt e
    rw [e]
    obtain ⟨a, ha, h1⟩ := Option.bind_eq_some_iff.1 he
    obtain ⟨b, hb, h2⟩ := Option.bind_eq_some_iff.1 h1
    exact lift_v (aBin_sound hC h2 (hρ _ _ ha) (hρ _ _ hb))
  · rename_i op t x e
    rw [e]
    obtain ⟨a, ha, h1⟩ := Option.bind_eq_some_iff.1 he
    exact lift_v (aUn_sound h1 (hρ _ _ ha))
  · rename_i s d x e
    rw [e]
    obtain ⟨a, ha, h1⟩ := Option.bind_eq_some_iff.1 he
    exact lift_v (aConvert_sound hC h1 (hρ _ _ ha))
  · rename_i t x e
    rw [e]
    obtain ⟨a, ha, h1⟩ := Option.bind_eq_some_iff.1 he
    obtain ⟨ti, hti, h2⟩ := Option.bind_eq_some_iff.1 h1
    refine lift_v ⟨.iface t (ρ' x), ?_, ?_⟩
    · simp only [Instr.makeInterface, Sem.run_bind, run_und hC hti, Result.andThen]
      generalize ti.desc = D at h2
      cases D <;> first | rfl | (cases h2; done)
    · split at h2
      · cases h2
      · cases h2; exact ⟨_, rfl, hρ _ _ ha⟩
  · rename_i fn first captured e
    rw [e]
    obtain ⟨f, hf, h1⟩ := Option.bind_eq_some_iff.1 he
    obtain ⟨c, hc, h2⟩ := Option.bind_eq_some_iff.1 h1
    cases h2
    refine lift_v ⟨.func fn (first.map ρ') (captured.map ρ'), rfl, _, _, rfl, ?_, ?_⟩
    · rw [Array.toList_map]; exact omap_ops hρ hf
    · rw [Array.toList_map]; exact omap_ops hρ hc
  · rename_i t x lo hi mx e
    rw [e]
    obtain ⟨a, ha, h1⟩ := Option.bind_eq_some_iff.1 he
    exact lift_v (aSlice_sound hC h1 (hρ _ _ ha) (orel_map hρ lo) (orel_map hρ hi) (orel_map hρ mx))
  · rename_i s x i e
    rw [e]
    obtain ⟨a, ha, h1⟩ := Option.bind_eq_some_iff.1 he
    exact lift_v (aFieldAddr_sound hC h1 (hρ _ _ ha))
  · rename_i s x i e
    rw [e]
    obtain ⟨a, ha, h1⟩ := Option.bind_eq_some_iff.1 he
    exact lift_v (aField_sound hC h1 (hρ _ _ ha))
  · rename_i t x i e
    rw [e]
    obtain ⟨a, ha, h1⟩ := Option.bind_eq_some_iff.1 he
    obtain ⟨j, hj, h2⟩ := Option.bind_eq_some_iff.1 h1
    exact lift_v (aIndexAddr_sound hC h2 (hρ _ _ ha) (hρ _ _ hj))
  · rename_i t x i e
    rw [e]
    obtain ⟨a, ha, h1⟩ := Option.bind_eq_some_iff.1 he
    obtain ⟨j, hj, h2⟩ := Option.bind_eq_some_iff.1 h1
    exact lift_v (aIndex_sound hC h2 (hρ _ _ ha) (hρ _ _ hj))
  · rename_i t i e
    rw [e]
    obtain ⟨a, ha, h1⟩ := Option.bind_eq_some_iff.1 he
    split at h1
    · obtain ⟨vs, e2, hvs⟩ := hρ _ _ ha
      obtain ⟨y, hy, hr⟩ := hvs.get h1
      refine lift_v ⟨y, ?_, hr⟩
      have : vs[i]? = some y := by rw [← Array.getElem?_toList]; exact hy
      rw [e2]
      simp only [Instr.extract, this, Sem.run_pure]
    · cases h1
  · rename_i b args ts e
    rw [e]
    obtain ⟨vs, hvs, h1⟩ := Option.bind_eq_some_iff.1 he
    have hr := omap_ops hρ hvs
    obtain ⟨y, ry, hy⟩ := aBuiltin_sound hC (vs := args.map ρ') (t := o.type) (cs := args.map fun | .const _ => true | _ => false) h1 (by rw [Array.toList_map]; exact hr)
    refine ⟨y, ?_, hy⟩
    simp only [resolve, Sem.run_bind, Sem.run_pure, Result.andThen, invoke]
    exact ry
  · cases he
end
end Go.Am

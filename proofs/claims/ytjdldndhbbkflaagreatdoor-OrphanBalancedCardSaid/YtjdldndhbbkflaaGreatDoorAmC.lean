/- A part of the proof about cellularlaw49.OrphanBalanced: lemmas only; what they say is theirs alone and no condition of the claim. -/
import Derived.Test.YtjdldndhbbkflaaGreatDoorAmB
import Derived.IntWalk
set_option autoImplicit false
set_option linter.unusedVariables false
set_option linter.unusedSimpArgs false
noncomputable section
namespace Go.Am
open Go

/-- the zero value of a type -/
def zvalA (C : Cx) (t : TypeId) : Option AV := (C.T t).bind fun i => if i.isAgg then some (.agg i.zero) else i.zero[0]?

/-- the first entry whose key equals k -/
def afind (C : Cx) (kt : TypeId) (k : AV) : List (AV × AV) → Nat → Option (Option (Nat × AV))
  | [], _ => some none
  | e :: es, i => (aEqual C 10000 kt k e.1).bind fun b => if b then some (some (i, e.2)) else afind C kt k es (i + 1)

def aKeyOk (C : Cx) : Nat → TypeId → AV → Bool
  | 0, _, _ => false
  | d + 1, t, v => match C.T t with
    | none => false
    | some i => match i.desc, v with
      | .interface _, _ => false
      | .array n e, .agg cs => (match C.T e with
        | some ei => (List.range n).all fun j => match partA C e cs (j * ei.size) with | some p => aKeyOk C d e p | none => false
        | none => false)
      | .struct fs, .agg cs => fs.toList.all fun f => f.name = "_" || match partA C f.type cs f.offset with | some p => aKeyOk C d f.type p | none => false
      | .array _ _, _ => false
      | .struct _, _ => false
      | _, _ => true

def bytesOfA : List AV → Option (List UInt8)
  | [] => some []
  | .int .u8 n :: l => (bytesOfA l).map (UInt8.ofNat n.toNat :: ·)
  | _ :: _ => none

inductive RRes where
  | imm (v : AV)
  | at (β : Nat) (f : ABlk → Option AV)

def aLookup (C : Cx) (t : TypeId) (k : AV) (ok : Bool) (es : List (AV × AV)) : Option AV :=
  (C.T t).bind fun ti => match ti.desc with
  | .map kt et => if aKeyOk C 10000 kt k then (afind C kt k es 0).bind fun r => match r with
    | some (_, v) => some (if ok then .tuple [v, .bool true] else v)
    | none => (zvalA C et).map fun v => if ok then .tuple [v, .bool false] else v
    else none
  | _ => none

def readOp (C : Cx) (ρ : Operand → Option AV) (op : Op) : Option RRes :=
  match op with
  | .load t a => (ρ a).bind fun v => match v with
    | .iptr cs => (partA C t cs 0).map .imm
    | .ptr β o => some (.at β fun B => match B with | .cells cs => partA C t cs o | _ => none)
    | _ => none
  | .lookup t m k ok => (ρ m).bind fun mv => (ρ k).bind fun kv => match mv with
    | .nilmap => (aLookup C t kv ok []).map .imm
    | .map β => some (.at β fun B => match B with | .map es => aLookup C t kv ok es | _ => none)
    | _ => none
  | .call { callee := .builtin .len, args, argTypes } => (omap ρ args.toList).bind fun vs => match vs with
    | [.map β] => (argTypes[0]?).bind fun t => (C.T t).bind fun ti => match ti.desc with
      | .map _ _ => some (.at β fun B => match B with | .map es => some (.int .i64 es.length) | _ => none)
      | _ => none
    | _ => none
  | .convert s d x => (ρ x).bind fun v => (C.T s).bind fun si => (C.T d).bind fun di => match si.desc, di.desc, v with
    | .slice e, .string, .vec _ len _ cs => (C.T e).bind fun ei => match ei.desc with
      | .int .u8 => if cs.length = len then (bytesOfA cs).map fun l => .imm (.str ⟨l.toArray⟩) else none
      | _ => none
    | .slice e, .string, .slice β o len _ _ => (C.T e).bind fun ei => match ei.desc with
      | .int .u8 => if len = 0 then some (.imm (.str ⟨#[]⟩)) else some (.at β fun B => match B with
        | .cells cs => if ((cs.drop o).take len).length = len then (bytesOfA ((cs.drop o).take len)).map fun l => .str ⟨l.toArray⟩ else none
        | _ => none)
      | _ => none
    | _, _, _ => none
  | _ => none

section
variable {C : Cx} {φ : Env} {w : World}

theorem zval_sound (hC : C.Ok) {t : TypeId} {v : AV} (h : zvalA C t = some v) : ∃ z, (zeroValue t).run C.P w = .ok z w ∧ VRel φ w v z := by
  obtain ⟨i, hi, h1⟩ := Option.bind_eq_some_iff.1 h
  obtain ⟨inf, z, a, b, c, d, e, f⟩ := (hC.ty t i hi).info
  refine ⟨z, by simp [zeroValue, typeInfo, a, d], ?_⟩
  split at h1
  · rename_i hag
    cases h1
    rw [if_pos hag] at f
    cases z <;> simp only [kindB] at f <;> (try omega)
    rename_i cs
    exact ⟨cs, rfl, (omap_rel e).1⟩
  · rename_i hag
    rw [if_neg hag] at f
    have hz : z.cells = #[z] := by cases z <;> first | rfl | (simp only [kindB] at f; omega)
    rw [hz] at e
    simp only [omap] at e
    split at e
    · rename_i y ys e1 e2
      cases e2
      have := Option.some.inj e
      rw [← this] at h1
      cases h1
      exact (ofSc_rel e1).1
    · cases e

theorem run_forEach {α : Type} (P : Program) (body : α → Unit → Sem (ForInStep Unit)) : ∀ (l : List α), (∀ a ∈ l, (body a ()).run P w = .ok (.yield ()) w) → (forIn l () body).run P w = .ok () w
  | [], _ => rfl
  | a :: l, h => by
    rw [List.forIn_cons, Sem.run_bind, h a (by simp)]
    exact run_forEach P body l fun b hb => h b (by simp [hb])

theorem aKeyOk_sound (hC : C.Ok) (em : Bool) : ∀ (d : Nat) (t : TypeId) (a : AV) (x : Value), aKeyOk C d t a = true → VRel φ w a x → (Instr.checkKey em d t x).run C.P w = .ok () w := by
  intro d
  induction d with
  | zero => intro t a x h; simp [aKeyOk] at h
  | succ d ih =>
    intro t a x h hx
    simp only [aKeyOk] at h
    split at h
    · cases h
    · rename_i i hi
      unfold Instr.checkKey
      simp only [Sem.run_bind, run_und hC hi, Result.andThen]
      generalize hd : i.desc = D at h
      split at h
      · cases h
      · rename_i n e cs
        obtain ⟨vs, rfl, hvs⟩ := hx
        split at h
        · rename_i ei hei
          simp only [List.all_eq_true] at h
          simp only [Std.Legacy.Range.forIn_eq_forIn_range']
          have hl : List.range' [:n].start [:n].size [:n].step = List.range n := by simp [Std.Legacy.Range.size, List.range_eq_range']
          rw [Sem.run_bind, hl, run_forEach]
          · rfl
          · intro j hj
            have := h j hj
            split at this
            · rename_i p hp
              obtain ⟨y, ry, hy⟩ := part_sound hC hp hvs
              simp only [Sem.run_bind, run_size hC hei, Result.andThen, ry, ih _ _ _ this hy, Sem.run_pure]
            · cases this
        · cases h
      · rename_i fs cs
        obtain ⟨vs, rfl, hvs⟩ := hx
        simp only [List.all_eq_true] at h
        dsimp only
        rw [← Array.forIn_toList, Sem.run_bind, run_forEach]
        · rfl
        · intro f hf
          have := h f hf
          by_cases hn : f.name = "_"
          · simp only [hn, ne_eq, not_true, if_false]; rfl
          · simp only [hn, decide_false, Bool.false_or] at this
            split at this
            · rename_i p hp
              obtain ⟨y, ry, hy⟩ := part_sound hC hp hvs
              simp only [ne_eq, hn, not_false_iff, if_true, Sem.run_bind, Result.andThen, ry, ih _ _ _ this hy, Sem.run_pure]
            · cases this
      · cases h
      · cases h
      · cases D <;> first | rfl | (exfalso; simp_all; done)

/-- the scan by sameNow, where it answers, is the scan by equality -/
theorem findNow_sound (hC : C.Ok) {kt : TypeId} {i : TyI} (hi : C.T kt = some i) {k : AV} {vk : Value} (hk : VRel φ w k vk) :
    ∀ (es : List (AV × AV)) (ces : List MapEntry) (n : Nat) (r : Option (Nat × AV)), afind C kt k es n = some r → ERel φ w es ces →
      ∃ r', (Instr.findAsking kt vk ces n).run C.P w = .ok r' w ∧ (∀ q, Instr.findNow i.desc vk ces n = some q → q = r') ∧
        (match r with | none => r' = none | some (j, v) => ∃ x, r' = some (j, x) ∧ VRel φ w v x ∧ (∃ e, ces[j - n]? = some e ∧ e.val = x ∧ ∃ k', VRel φ w k' e.key ∧ aEqual C 10000 kt k k' = some true) ∧ n ≤ j)
  | [], ces, n, r, h, hr => by
    have : ces = [] := hr
    subst this
    cases h
    exact ⟨none, rfl, fun q hq => by cases hq; rfl, rfl⟩
  | e :: es, ces, n, r, h, hr => by
    obtain ⟨ce, ces', rfl, hke, hve, hrest⟩ := hr
    simp only [afind] at h
    obtain ⟨b, hb, h1⟩ := Option.bind_eq_some_iff.1 h
    have heq := aEqual_sound hC _ _ _ _ _ _ _ hb hk hke
    have heq' : (Op.equal kt vk ce.key).run C.P w = .ok b w := heq
    have hsame : ∀ c, Instr.sameNow i.desc vk ce.key = some c → c = b := by
      intro c hc
      obtain ⟨i', hi', hb1⟩ := Option.bind_eq_some_iff.1 hb
      rw [hi] at hi'; cases hi'
      generalize i.desc = D at hc hb1
      have hke := hke
      generalize ce.key = ck at hc hke
      unfold Instr.sameNow at hc
      split at hc
      · rename_i k1 a k2 b2
        obtain rfl := hk.inv_int
        have he := hke.inv_int
        rw [he] at hb1
        simp only at hb1
        split at hc
        · rename_i hkk; rw [if_pos hkk] at hb1; cases hc; cases hb1; rfl
        · cases hc
      · obtain rfl := hk.inv_str
        have he := hke.inv_str
        rw [he] at hb1
        cases hc; cases hb1; rfl
      · obtain rfl := hk.inv_bool
        have he := hke.inv_bool
        rw [he] at hb1
        cases hc; cases hb1; rfl
      · cases hc
    cases b with
    | true =>
      simp only [if_true] at h1
      cases h1
      refine ⟨some (n, ce.val), by simp only [Instr.findAsking, Sem.run_bind, heq', Result.andThen, if_true, Sem.run_pure], ?_, ce.val, rfl, hve, ⟨ce, by simp, rfl, e.1, hke, hb⟩, Nat.le_refl _⟩
      intro q hq
      simp only [Instr.findNow] at hq
      split at hq
      · cases hq; rfl
      · rename_i hs; cases hsame _ hs
      · cases hq
    | false =>
      simp only [Bool.false_eq_true, if_false] at h1
      obtain ⟨r', hr', hq', hm'⟩ := findNow_sound hC hi hk es ces' (n + 1) r h1 hrest
      refine ⟨r', by simp only [Instr.findAsking, Sem.run_bind, heq', Result.andThen, Bool.false_eq_true, if_false, hr'], ?_, ?_⟩
      · intro q hq
        simp only [Instr.findNow] at hq
        split at hq
        · rename_i hs; cases hsame _ hs
        · exact hq' q hq
        · cases hq
      · cases r with
        | none => exact hm'
        | some jv =>
          obtain ⟨j, v⟩ := jv
          obtain ⟨x, e1, e2, ⟨ce2, e3, e4⟩, e5⟩ := hm'
          refine ⟨x, e1, e2, ⟨ce2, ?_, e4⟩, by omega⟩
          rw [show j - n = (j - (n + 1)) + 1 by omega]
          simpa using e3

theorem findKey_sound (hC : C.Ok) {kt : TypeId} {i : TyI} (hi : C.T kt = some i) {k : AV} {vk : Value} (hk : VRel φ w k vk) {es : List (AV × AV)} {ces : List MapEntry} {r : Option (Nat × AV)}
    (h : afind C kt k es 0 = some r) (hr : ERel φ w es ces) :
    ∃ r', (Instr.findKey kt vk ces).run C.P w = .ok r' w ∧
      (match r with | none => r' = none | some (j, v) => ∃ x, r' = some (j, x) ∧ VRel φ w v x ∧ (∃ e, ces[j]? = some e ∧ e.val = x ∧ ∃ k', VRel φ w k' e.key ∧ aEqual C 10000 kt k k' = some true)) := by
  obtain ⟨r', h1, h2, h3⟩ := findNow_sound hC hi hk es ces 0 r h hr
  refine ⟨r', ?_, ?_⟩
  · simp only [Instr.findKey, Sem.run_bind, run_und hC hi, Result.andThen]
    split
    · rename_i q hq; rw [h2 q hq]; rfl
    · exact h1
  · cases r with
    | none => exact h3
    | some jv =>
      obtain ⟨j, v⟩ := jv
      obtain ⟨x, e1, e2, e3, _⟩ := h3
      exact ⟨x, e1, e2, by simpa using e3⟩
end
end Go.Am

namespace Go.Am
open Go
section
variable {C : Cx} {φ : Env} {w : World}

theorem VRel.of_int {k : IntKind} {n : Int} {x : Value} (h : VRel φ w (.int k n) x) : x = .int k n := h

theorem run_bytesLoop (body : Value → ByteArray → Sem (ForInStep ByteArray)) (hb : ∀ n s, (body (.int .u8 n) s).run C.P w = .ok (.yield (s.push (UInt8.ofNat n.toNat))) w) :
    ∀ (l : List AV) (vs : List Value) (bs : List UInt8) (acc : ByteArray), bytesOfA l = some bs → VRels φ w l vs →
    (forIn vs acc body).run C.P w = .ok (bs.foldl ByteArray.push acc) w
  | [], vs, bs, acc, h, hv => by
    have : vs = [] := hv
    subst this
    cases h
    rfl
  | .int .u8 n :: l, vs, bs, acc, h, hv => by
    obtain ⟨v, vs', rfl, hx, hl⟩ := hv
    obtain rfl : v = _ := hx
    simp only [bytesOfA, Option.map_eq_some_iff] at h
    obtain ⟨bs', hbs, rfl⟩ := h
    rw [List.forIn_cons, Sem.run_bind, hb]
    exact run_bytesLoop body hb l vs' bs' _ hbs hl

theorem push_foldl : ∀ (bs : List UInt8) (acc : ByteArray), (bs.foldl ByteArray.push acc) = ⟨acc.data ++ bs.toArray⟩
  | [], acc => by simp
  | b :: bs, acc => by
    rw [List.foldl_cons, push_foldl bs]
    simp [ByteArray.push]

theorem bytesToString_sound {l : List AV} {bs : List UInt8} {b o : Nat} {c : Nat} (h : bytesOfA l = some bs) (hc : CellsAt φ w b o l) :
    (Conv.bytesToString (.slice (some ⟨b, o, none⟩) l.length c)).run C.P w = .ok (.string ⟨bs.toArray⟩) w := by
  obtain ⟨vs, hr, hv, _⟩ := run_loadCells_at C.P hc
  simp only [Conv.bytesToString, Sem.run_bind, hr, Result.andThen]
  rw [← Array.forIn_toList]
  rw [run_bytesLoop (C := C) _ (fun n s => rfl) l vs.toList bs .empty h hv, push_foldl]
  have e : (ByteArray.empty.data ++ bs.toArray) = bs.toArray := by
    have : ByteArray.empty.data = #[] := rfl
    rw [this]; simp
  rw [e]
  rfl

theorem lookup_run {t kt et : TypeId} {ti : TyI} {k x : Value} {ok : Bool} {ces : Array MapEntry} (hti : C.T t = some ti) (hd : ti.desc = .map kt et) (hC : C.Ok)
    (hx : x = .map none ∧ ces = #[] ∨ ∃ r clk, x = .map (some r) ∧ w.heap[r]? = some (.map ces clk)) :
    (Instr.lookup t x k ok).run C.P w = (do
      Instr.checkKey ces.isEmpty 10000 kt k
      let (v, ok') ← match ← Instr.findKey kt k ces.toList with
        | some (_, v) => pure (v, true)
        | none => do pure (← zeroValue et, false)
      pure (if ok then .tuple #[v, .bool ok'] else v) : Sem Value).run C.P w := by
  rcases hx with ⟨rfl, rfl⟩ | ⟨r, clk, rfl, hh⟩
  · rw [Instr.lookup, Sem.run_bind, run_und hC hti]
    simp only [Result.andThen, hd]
    rfl
  · rw [Instr.lookup, Sem.run_bind, run_und hC hti]
    simp only [Result.andThen, hd]
    have hg : (getObj r).run C.P w = .ok (.map ces clk) w := by simp [getObj, Sem.run, hh]
    simp only [Sem.run_bind, hg, Result.andThen, Sem.run_pure]
    rfl

def RRes.holds (C : Cx) (φ : Env) (w : World) (s : Sem Next) : RRes → Prop
  | .imm v => ∃ y, s.run C.P w = .ok (.value y) w ∧ VRel φ w v y
  | .at β f => ∀ b δ B v, φ β = .live b δ → BRel φ w B b δ → f B = some v → ∃ y, s.run C.P w = .ok (.value y) w ∧ VRel φ w v y

theorem readOp_sound (hC : C.Ok) {ρ : Operand → Option AV} {ρ' : Operand → Value} (hρ : OpsRel φ w ρ ρ') {o : Oper} {r : RRes} (he : readOp C ρ o.op = some r) :
    r.holds C φ w (execOp ρ' o) := by
  unfold readOp at he
  unfold execOp
  split at he
  · rename_i t a e
    rw [e]
    obtain ⟨v, hv, h1⟩ := Option.bind_eq_some_iff.1 he
    have hx := hρ _ _ hv
    split at h1
    · rename_i cs
      simp only [Option.map_eq_some_iff] at h1
      obtain ⟨u, hu, rfl⟩ := h1
      obtain ⟨b, o, e2, hc⟩ := hx
      obtain ⟨y, ry, hy⟩ := loadVar_sound hC hu hc.cells
      refine lift_v ⟨y, ?_, hy⟩
      simp only [Instr.loadAt, e2, Instr.sureAddr, Sem.run_bind, Sem.run_pure, Result.andThen]
      exact ry
    · rename_i β o
      cases h1
      intro b δ B v hφ hB hf
      dsimp only at hf
      split at hf
      · rename_i cs
        obtain ⟨a', e2, hok, -⟩ := hx
        rw [hφ] at hok
        have hok' : a' = _ := hok
        obtain ⟨y, ry, hy⟩ := loadVar_sound hC hf hB.cells
        refine lift_v ⟨y, ?_, hy⟩
        simp only [Instr.loadAt, e2, Instr.sureAddr, Sem.run_bind, Sem.run_pure, Result.andThen, hok']
        exact ry
      · cases hf
    · cases h1
  · rename_i t m k ok e
    rw [e]
    obtain ⟨mv, hmv, h1⟩ := Option.bind_eq_some_iff.1 he
    obtain ⟨kv, hkv, h2⟩ := Option.bind_eq_some_iff.1 h1
    have hm := hρ _ _ hmv
    have hk := hρ _ _ hkv
    have key : ∀ (es : List (AV × AV)) (ces : Array MapEntry) (v : AV), aLookup C t kv ok es = some v → ERel φ w es ces.toList →
        (∀ x : Value, (x = .map none ∧ ces = #[] ∨ ∃ r clk, x = .map (some r) ∧ w.heap[r]? = some (.map ces clk)) →
          ∃ y, (Instr.lookup t x (ρ' k) ok).run C.P w = .ok y w ∧ VRel φ w v y) := by
      intro es ces v hl hes x hx
      obtain ⟨ti, hti, h3⟩ := Option.bind_eq_some_iff.1 hl
      generalize hd : ti.desc = D at h3
      split at h3
      · rename_i kt et
        split at h3
        · rename_i hkey
          obtain ⟨r, hr, h4⟩ := Option.bind_eq_some_iff.1 h3
          have hck := aKeyOk_sound (w := w) hC ces.isEmpty _ _ _ _ hkey hk
          have hkt : ∃ i, C.T kt = some i := by
            cases hh : C.T kt with
            | none => simp [aKeyOk, hh] at hkey
            | some i => exact ⟨i, rfl⟩
          obtain ⟨i, hi⟩ := hkt
          obtain ⟨r', hr', hm'⟩ := findKey_sound hC hi hk hr hes
          have hlr := lookup_run (C := C) (w := w) (k := ρ' k) (ok := ok) hti hd hC hx
          cases r with
          | none =>
            have : r' = none := hm'
            subst this
            simp only [Option.map_eq_some_iff] at h4
            obtain ⟨z, hz, rfl⟩ := h4
            obtain ⟨y, ry, hy⟩ := zval_sound (φ := φ) (w := w) hC hz
            refine ⟨if ok then .tuple #[y, .bool false] else y, ?_, ?_⟩
            · rw [hlr]
              simp only [hck, hr', Sem.run_bind, ry, Result.andThen, Sem.run_pure]
            · cases ok
              · exact hy
              · exact ⟨_, rfl, _, _, rfl, hy, _, _, rfl, rfl, rfl⟩
          | some jv =>
            obtain ⟨j, u⟩ := jv
            obtain ⟨y, rfl, hy, _⟩ := hm'
            cases h4
            refine ⟨if ok then .tuple #[y, .bool true] else y, ?_, ?_⟩
            · rw [hlr]
              simp only [hck, hr', Sem.run_bind, Result.andThen, Sem.run_pure]
            · cases ok
              · exact hy
              · exact ⟨_, rfl, _, _, rfl, hy, _, _, rfl, rfl, rfl⟩
        · cases h3
      · cases h3
    split at h2
    · simp only [Option.map_eq_some_iff] at h2
      obtain ⟨v, hv, rfl⟩ := h2
      exact lift_v (key [] #[] v hv rfl _ (.inl ⟨hm, rfl⟩))
    · rename_i β
      cases h2
      intro b δ B v hφ hB hf
      dsimp only at hf
      split at hf
      · rename_i es
        obtain ⟨r, e2, hok⟩ := hm
        rw [hφ] at hok
        obtain ⟨rfl, _⟩ := hok
        obtain ⟨_, ces, clk, hh, hes, _⟩ := hB
        exact lift_v (key es ces v hf hes _ (.inr ⟨r, clk, e2, hh⟩))
      · cases hf
    · cases h2
  · rename_i args ts e
    rw [e]
    obtain ⟨vs, hvs, h1⟩ := Option.bind_eq_some_iff.1 he
    have hr := omap_ops hρ hvs
    split at h1
    · rename_i β
      obtain ⟨t, ht, h2⟩ := Option.bind_eq_some_iff.1 h1
      obtain ⟨ti, hti, h3⟩ := Option.bind_eq_some_iff.1 h2
      generalize hd : ti.desc = D at h3
      split at h3
      · cases h3
        intro b δ B v hφ hB hf
        dsimp only at hf
        split at hf
        · rename_i es
          cases hf
          obtain ⟨x, xs, e2, hx, e3⟩ := hr
          have : xs = [] := e3
          subst this
          obtain ⟨r, rfl, hok⟩ := hx
          rw [hφ] at hok
          obtain ⟨rfl, _⟩ := hok
          obtain ⟨_, ces, clk, hh, hes, _⟩ := hB
          have hargs : args.map ρ' = #[.map (some r)] := by rw [← Array.toArray_toList (xs := args.map ρ'), Array.toList_map, e2]
          have hl : ∀ (es : List (AV × AV)) (l : List MapEntry), ERel φ w es l → l.length = es.length := by
            intro es
            induction es with
            | nil => intro l h; have : l = [] := h; subst this; rfl
            | cons a es ih => intro l h; obtain ⟨e, l', rfl, _, _, h⟩ := h; simp [ih _ h]
          refine ⟨.int .i64 es.length, ?_, rfl⟩
          have h0 : (#[Value.map (some r)] : Array Value)[0]? = some (.map (some r)) := rfl
          have hsz : ces.size = es.length := by simpa using hl es _ hes
          simp only [resolve, Sem.run_bind, Sem.run_pure, Result.andThen, invoke, builtin, hargs, Builtin.len_, ht, h0, run_und hC hti, hd]
          simp [getObj, Sem.run, hh, hsz, goInt]
        · cases hf
      · cases h3
    · cases h1
  · rename_i s d x e
    rw [e]
    obtain ⟨v, hv, h1⟩ := Option.bind_eq_some_iff.1 he
    obtain ⟨si, hsi, h2⟩ := Option.bind_eq_some_iff.1 h1
    obtain ⟨di, hdi, h3⟩ := Option.bind_eq_some_iff.1 h2
    have hx := hρ _ _ hv
    generalize hsd : si.desc = S at h3
    generalize hdd : di.desc = D at h3
    have conv : ∀ e ei, C.T e = some ei → ei.desc = .int .u8 → S = .slice e → D = .string → ∀ a l c, ρ' x = .slice a l c →
        (convert s d (ρ' x)).run C.P w = (Conv.bytesToString (ρ' x)).run C.P w := by
      intro e ei hei hed hS hD a l c hs
      subst hS; subst hD
      simp only [convert, Sem.run_bind, run_und hC hsi, run_und hC hdi, hsd, hdd, Result.andThen, hs, run_und hC hei, hed]
    split at h3
    · rename_i e nl len cap cs
      obtain ⟨ei, hei, h4⟩ := Option.bind_eq_some_iff.1 h3
      generalize hed : ei.desc = E at h4
      split at h4
      · split at h4
        · rename_i hlen
          simp only [Option.map_eq_some_iff] at h4
          obtain ⟨bs, hbs, rfl⟩ := h4
          obtain ⟨a, c, e2, hl, hcap, hn, hy⟩ := hx
          refine lift_v ⟨.string ⟨bs.toArray⟩, ?_, rfl⟩
          rw [conv e ei hei hed rfl rfl a len c e2, e2]
          cases nl with
          | true =>
            obtain ⟨rfl, rfl, rfl⟩ := hn rfl
            have : cs = [] := List.length_eq_zero_iff.1 hlen
            subst this
            cases hbs
            rfl
          | false =>
            obtain ⟨a', rfl, hy'⟩ := hy rfl
            subst hlen
            by_cases hz : cs.length = 0
            · obtain rfl : cs = [] := List.length_eq_zero_iff.1 hz
              cases hbs
              simp only [List.length_nil, Conv.bytesToString, loadCells, loadCellsFrom, Sem.run_bind, Sem.run_pure, Result.andThen]
              rfl
            · obtain ⟨b, o, rfl, hc⟩ := hy' (by omega)
              exact bytesToString_sound hbs hc.cells
        · cases h4
      · cases h4
    · rename_i e β o len cap es
      obtain ⟨ei, hei, h4⟩ := Option.bind_eq_some_iff.1 h3
      generalize hed : ei.desc = E at h4
      split at h4
      · obtain ⟨a, c, e2, hok, hl, hcap, _⟩ := hx
        split at h4
        · rename_i hz
          cases h4
          refine lift_v ⟨.string ⟨#[]⟩, ?_, rfl⟩
          rw [conv e ei hei hed rfl rfl (some a) len c e2, e2, hz]
          simp only [Conv.bytesToString, loadCells, loadCellsFrom, Sem.run_bind, Sem.run_pure, Result.andThen]
          rfl
        · cases h4
          intro b δ B v hφ hB hf
          dsimp only at hf
          split at hf
          · rename_i cs
            split at hf
            · rename_i hlen
              simp only [Option.map_eq_some_iff] at hf
              obtain ⟨bs, hbs, rfl⟩ := hf
              rw [hφ] at hok
              have hok' : a = _ := hok (by omega)
              refine lift_v ⟨.string ⟨bs.toArray⟩, ?_, rfl⟩
              rw [conv e ei hei hed rfl rfl (some a) len c e2, e2, hok', ← hlen]
              have := bytesToString_sound (C := C) (c := c) hbs ((hB.cells.drop o).take len)
              rw [hlen] at this ⊢
              exact this
            · cases hf
          · cases hf
      · cases h4
    · cases h3
  · cases he
end
end Go.Am

namespace Go.Am
open Go

def upd (φ : Env) (β : Nat) (l : Loc) : Env := { φ with loc := fun γ => if γ = β then l else φ γ }
theorem upd_self (φ : Env) (β : Nat) (l : Loc) : upd φ β l β = l := by simp [upd]
theorem upd_ne (φ : Env) {β γ : Nat} (l : Loc) (h : γ ≠ β) : upd φ β l γ = φ γ := by simp [upd, h]

section
variable {φ : Env} {A : AH} {w w₁ : World}

theorem shape?_of_block {b : Nat} (h : w₁.heap[b]? = w.heap[b]?) : w₁.shape? b = w.shape? b := by simp [World.shape?, h]

/-- w₁ is w with one block more -/
structure WNew (w w₁ : World) (o : Obj) : Prop where
  heap : w₁.heap = w.heap.push o
  os : w₁.os = w.os
  tape : w₁.tape = w.tape
  output : w₁.output = w.output
theorem WNew.old {o : Obj} (h : WNew w w₁ o) {b : Nat} (hb : b < w.heap.size) : w₁.heap[b]? = w.heap[b]? := by
  rw [h.heap, Array.getElem?_push, if_neg (by omega)]
theorem WNew.new {o : Obj} (h : WNew w w₁ o) : w₁.heap[w.heap.size]? = some o := by
  rw [h.heap, Array.getElem?_push, if_pos rfl]
theorem Ext.new {o : Obj} (hA : HRel φ A w) (h : WNew w w₁ o) : Ext φ w (upd φ A.next (.live w.heap.size 0)) w₁ where
  mono β hb := by
    left
    have : β ≠ A.next := fun e => hb (e ▸ hA.unb)
    rw [upd_ne _ _ this]
  keep b hb _ := h.old hb
  lv b hi := by
    obtain ⟨β, δ, e⟩ := hi
    by_cases hβ : β = A.next
    · subst hβ; rw [upd_self] at e; cases e; exact .inr (Nat.le_refl _)
    · rw [upd_ne _ _ hβ] at e; exact .inl ⟨β, δ, e⟩
  priv := rfl
  size := by rw [h.heap]; simp
  shape b s hs := by
    have hb : b < w.heap.size := by
      rcases Nat.lt_or_ge b w.heap.size with x | x
      · exact x
      · simp [World.shape?, Array.getElem?_eq_none x] at hs
    rw [shape?_of_block (h.old hb)]; exact hs
  os := h.os
  tape := h.tape
  output := h.output
theorem HRel.new {o : Obj} {B : ABlk} (hA : HRel φ A w) (h : WNew w w₁ o) (hB : BRel (upd φ A.next (.live w.heap.size 0)) w₁ B w.heap.size 0) :
    HRel (upd φ A.next (.live w.heap.size 0)) (A.alloc B) w₁ where
  born β := by
    rw [AH.st_alloc]
    by_cases hβ : β = A.next
    · subst hβ; rw [upd_self]; simp
    · rw [upd_ne _ _ hβ, hA.born β, if_neg hβ]
  fresh β hb := by
    have : A.next + 1 ≤ β := hb
    rw [AH.st_alloc, if_neg (by omega)]; exact hA.fresh β (by omega)
  blk β B' hb := by
    rw [AH.get_alloc] at hb
    by_cases hβ : β = A.next
    · rw [if_pos hβ] at hb; cases hb; subst hβ; exact ⟨_, _, upd_self _ _ _, hB⟩
    · rw [if_neg hβ] at hb
      obtain ⟨b, δ, e, r⟩ := hA.blk β B' hb
      exact ⟨b, δ, by rw [upd_ne _ _ hβ]; exact e, r.ext (Ext.new hA h) (h.old r.lt)⟩
  live β b δ e := by
    rw [AH.get_alloc]
    by_cases hβ : β = A.next
    · exact ⟨B, if_pos hβ⟩
    · rw [upd_ne _ _ hβ] at e; rw [if_neg hβ]; exact hA.live β b δ e
  inj β γ b δ δ' e1 e2 := by
    have old : ∀ β b δ, φ β = .live b δ → b < w.heap.size := fun β b δ e => by
      obtain ⟨B', hb⟩ := hA.live β b δ e
      obtain ⟨b', δ', e', r⟩ := hA.blk β B' hb
      rw [e] at e'; cases e'; exact r.lt
    by_cases hβ : β = A.next <;> by_cases hγ : γ = A.next
    · rw [hβ, hγ]
    · subst hβ; rw [upd_self] at e1; cases e1; rw [upd_ne _ _ hγ] at e2; exact absurd (old _ _ _ e2) (by omega)
    · subst hγ; rw [upd_self] at e2; cases e2; rw [upd_ne _ _ hβ] at e1; exact absurd (old _ _ _ e1) (by omega)
    · rw [upd_ne _ _ hβ] at e1; rw [upd_ne _ _ hγ] at e2; exact hA.inj _ _ _ _ _ e1 e2
  prv b hb := by rw [h.heap, Array.size_push]; exact Nat.lt_succ_of_lt (hA.prv b hb)
  dis b hb := by
    rintro ⟨γ, δ, e⟩
    by_cases hγ : γ = A.next
    · subst hγ; rw [upd_self] at e; cases e; exact absurd (hA.prv _ hb) (by omega)
    · rw [upd_ne _ _ hγ] at e; exact hA.dis b hb ⟨γ, δ, e⟩

/-- w₁ is w but for block b, which keeps its kind and size -/
structure WPut (w w₁ : World) (b : Nat) : Prop where
  size : w₁.heap.size = w.heap.size
  other : ∀ k, k ≠ b → w₁.heap[k]? = w.heap[k]?
  shape : w₁.shape? b = w.shape? b
  os : w₁.os = w.os
  tape : w₁.tape = w.tape
  output : w₁.output = w.output
theorem WPut.refl (w : World) (b : Nat) : WPut w w b := ⟨rfl, fun _ _ => rfl, rfl, rfl, rfl, rfl⟩
theorem WPut.trans {w₂ : World} {b : Nat} (h : WPut w w₁ b) (k : WPut w₁ w₂ b) : WPut w w₂ b :=
  ⟨k.size.trans h.size, fun j hj => (k.other j hj).trans (h.other j hj), k.shape.trans h.shape, k.os.trans h.os, k.tape.trans h.tape, k.output.trans h.output⟩
theorem WPut.shapes {b : Nat} (h : WPut w w₁ b) (k : Nat) : w₁.shape? k = w.shape? k := by
  by_cases e : k = b
  · subst e; exact h.shape
  · exact shape?_of_block (h.other k e)
theorem Ext.put {b : Nat} (h : WPut w w₁ b) (hi : Lv φ b) : Ext φ w φ w₁ where
  mono _ _ := .inl rfl
  keep k hk hn := h.other k fun e => hn (e ▸ hi)
  lv _ x := .inl x
  priv := rfl
  size := by rw [h.size]; exact Nat.le_refl _
  shape k s hs := by rw [h.shapes]; exact hs
  os := h.os
  tape := h.tape
  output := h.output
theorem HRel.put {β b δ : Nat} {B : ABlk} (hA : HRel φ A w) (hφ : φ β = .live b δ) (h : WPut w w₁ b) (hB : BRel φ w₁ B b δ) : HRel φ (A.put β B) w₁ where
  born γ := by
    rw [AH.st_put]
    by_cases hγ : γ = β
    · subst hγ; rw [hφ]; simp
    · rw [if_neg hγ]; exact hA.born γ
  fresh γ hg := by
    have : A.next ≤ γ := hg
    rw [AH.st_put, if_neg (fun e => by have := hA.lt hφ; omega)]; exact hA.fresh γ this
  blk γ B' hb := by
    rw [AH.get_put] at hb
    by_cases hγ : γ = β
    · rw [if_pos hγ] at hb; cases hb; subst hγ; exact ⟨b, δ, hφ, hB⟩
    · rw [if_neg hγ] at hb
      obtain ⟨c, δ', e, r⟩ := hA.blk γ B' hb
      have : c ≠ b := fun ec => hγ (hA.inj _ _ _ _ _ (ec ▸ e) hφ)
      exact ⟨c, δ', e, r.ext (Ext.put h ⟨β, δ, hφ⟩) (h.other _ this)⟩
  live γ c δ' e := by
    rw [AH.get_put]
    by_cases hγ : γ = β
    · exact ⟨B, if_pos hγ⟩
    · rw [if_neg hγ]; exact hA.live γ c δ' e
  inj := hA.inj
  prv b hb := by rw [h.size]; exact hA.prv b hb
  dis := hA.dis

/-- block β is given up -/
theorem Ext.kill {β : Nat} : Ext φ w (upd φ β .gone) w where
  mono γ hg := by
    by_cases e : γ = β
    · subst e; exact .inr (upd_self _ _ _)
    · exact .inl (upd_ne _ _ e)
  keep _ _ _ := rfl
  lv b hi := by
    obtain ⟨γ, δ, e⟩ := hi
    by_cases hγ : γ = β
    · subst hγ; rw [upd_self] at e; cases e
    · rw [upd_ne _ _ hγ] at e; exact .inl ⟨γ, δ, e⟩
  priv := rfl
  size := Nat.le_refl _
  shape _ _ h := h
  os := rfl
  tape := rfl
  output := rfl
theorem HRel.kill {β : Nat} (hA : HRel φ A w) (hβ : β < A.next) : HRel (upd φ β .gone) (A.kill β) w where
  born γ := by
    rw [AH.st_kill]
    by_cases e : γ = β
    · subst e; rw [upd_self]; simp
    · rw [upd_ne _ _ e, if_neg e]; exact hA.born γ
  fresh γ hg := by
    have : A.next ≤ γ := hg
    rw [AH.st_kill, if_neg (by omega)]; exact hA.fresh γ this
  blk γ B hb := by
    rw [AH.get_kill] at hb
    by_cases e : γ = β
    · rw [if_pos e] at hb; cases hb
    · rw [if_neg e] at hb
      obtain ⟨b, δ, e', r⟩ := hA.blk γ B hb
      exact ⟨b, δ, by rw [upd_ne _ _ e]; exact e', r.ext Ext.kill rfl⟩
  live γ b δ e' := by
    rw [AH.get_kill]
    by_cases e : γ = β
    · subst e; rw [upd_self] at e'; cases e'
    · rw [upd_ne _ _ e] at e'; rw [if_neg e]; exact hA.live γ b δ e'
  inj γ ε b δ δ' e1 e2 := by
    by_cases h1 : γ = β
    · subst h1; rw [upd_self] at e1; cases e1
    · by_cases h2 : ε = β
      · subst h2; rw [upd_self] at e2; cases e2
      · rw [upd_ne _ _ h1] at e1; rw [upd_ne _ _ h2] at e2; exact hA.inj _ _ _ _ _ e1 e2
  prv := hA.prv
  dis b hb := by
    rintro ⟨γ, δ, e⟩
    by_cases hγ : γ = β
    · subst hγ; rw [upd_self] at e; cases e
    · rw [upd_ne _ _ hγ] at e; exact hA.dis b hb ⟨γ, δ, e⟩

/-- block β is given up, and what it lay in is taken by a new one -/
theorem Ext.move {β b δ δ' : Nat} (hA : HRel φ A w) (hφ : φ β = .live b δ) (h : WPut w w₁ b) : Ext φ w (upd (upd φ β .gone) A.next (.live b δ')) w₁ where
  mono γ hg := by
    have : γ ≠ A.next := fun e => hg (e ▸ hA.unb)
    rw [upd_ne _ _ this]
    by_cases e : γ = β
    · subst e; exact .inr (upd_self _ _ _)
    · exact .inl (upd_ne _ _ e)
  keep k hk hn := h.other k fun e => hn (e ▸ ⟨β, δ, hφ⟩)
  priv := rfl
  lv c hi := by
    obtain ⟨γ, δ₁, e⟩ := hi
    by_cases hγ : γ = A.next
    · subst hγ; rw [upd_self] at e; cases e; exact .inl ⟨β, δ, hφ⟩
    · rw [upd_ne _ _ hγ] at e
      by_cases hβ : γ = β
      · subst hβ; rw [upd_self] at e; cases e
      · rw [upd_ne _ _ hβ] at e; exact .inl ⟨γ, δ₁, e⟩
  size := by rw [h.size]; exact Nat.le_refl _
  shape k s hs := by rw [h.shapes]; exact hs
  os := h.os
  tape := h.tape
  output := h.output
theorem HRel.move {β b δ δ' : Nat} {B : ABlk} (hA : HRel φ A w) (hφ : φ β = .live b δ) (h : WPut w w₁ b)
    (hB : BRel (upd (upd φ β .gone) A.next (.live b δ')) w₁ B b δ') : HRel (upd (upd φ β .gone) A.next (.live b δ')) ((A.kill β).alloc B) w₁ := by
  have hβ : β < A.next := hA.lt hφ
  have hK := hA.kill hβ
  have hnb : ∀ γ δ₁, upd φ β .gone γ ≠ .live b δ₁ := by
    intro γ δ₁ e
    by_cases h1 : γ = β
    · subst h1; rw [upd_self] at e; cases e
    · rw [upd_ne _ _ h1] at e; exact h1 (hA.inj _ _ _ _ _ e hφ)
  exact {
    born := fun γ => by
      rw [AH.st_alloc, show (A.kill β).next = A.next from rfl]
      by_cases e : γ = A.next
      · subst e; rw [upd_self]; simp
      · rw [upd_ne _ _ e, if_neg e, hK.born γ]
    fresh := fun γ hg => by
      have : A.next + 1 ≤ γ := hg
      rw [AH.st_alloc, show (A.kill β).next = A.next from rfl, if_neg (by omega)]
      exact hK.fresh γ (show A.next ≤ γ by omega)
    blk := fun γ B' hb => by
      rw [AH.get_alloc, show (A.kill β).next = A.next from rfl] at hb
      by_cases e : γ = A.next
      · rw [if_pos e] at hb; cases hb; subst e; exact ⟨_, _, upd_self _ _ _, hB⟩
      · rw [if_neg e] at hb
        obtain ⟨c, δ₁, e', r⟩ := hK.blk γ B' hb
        have hc : c ≠ b := fun ec => hnb γ δ₁ (ec ▸ e')
        refine ⟨c, δ₁, by rw [upd_ne _ _ e]; exact e', ?_⟩
        have hb0 : A.get γ = some B' := by
          rw [AH.get_kill] at hb
          split at hb
          · cases hb
          · exact hb
        have hg : γ ≠ β := fun e1 => by rw [AH.get_kill, if_pos e1] at hb; cases hb
        obtain ⟨c', δ₂, e2, r2⟩ := hA.blk γ B' hb0
        rw [upd_ne _ _ hg] at e'
        rw [e'] at e2; cases e2
        exact r2.ext (Ext.move hA hφ h) (h.other _ hc)
    live := fun γ c δ₁ e' => by
      rw [AH.get_alloc]
      by_cases e : γ = A.next
      · exact ⟨B, if_pos e⟩
      · rw [upd_ne _ _ e] at e'; rw [if_neg (show γ ≠ (A.kill β).next from e)]; exact hK.live γ c δ₁ e'
    inj := fun γ ε c δ₁ δ₂ e1 e2 => by
      by_cases h1 : γ = A.next <;> by_cases h2 : ε = A.next
      · rw [h1, h2]
      · subst h1; rw [upd_self] at e1; cases e1; rw [upd_ne _ _ h2] at e2; exact absurd e2 (hnb _ _)
      · subst h2; rw [upd_self] at e2; cases e2; rw [upd_ne _ _ h1] at e1; exact absurd e1 (hnb _ _)
      · rw [upd_ne _ _ h1] at e1; rw [upd_ne _ _ h2] at e2; exact hK.inj _ _ _ _ _ e1 e2
    prv := fun b hb => by rw [h.size]; exact hA.prv b hb
    dis := fun b' hb => by
      rintro ⟨γ, δ₁, e⟩
      by_cases hγ : γ = A.next
      · subst hγ; rw [upd_self] at e; cases e; exact hA.dis _ hb ⟨β, _, hφ⟩
      · rw [upd_ne _ _ hγ] at e; exact hK.dis b' hb ⟨γ, δ₁, e⟩ }
end
end Go.Am

namespace Go.Am
open Go

/-- n copies of a list, one behind the other -/
def reps (z : List AV) : Nat → List AV
  | 0 => []
  | n + 1 => z ++ reps z n
theorem reps_length (z : List AV) : ∀ n, (reps z n).length = n * z.length
  | 0 => by simp [reps]
  | n + 1 => by simp [reps, reps_length z n, Nat.add_mul]; omega
theorem reps_get (z : List AV) : ∀ n i, i < n * z.length → (reps z n)[i]? = z[i % z.length]?
  | 0, i, h => by simp at h
  | n + 1, i, h => by
    simp only [reps]
    by_cases hi : i < z.length
    · rw [List.getElem?_append_left hi, Nat.mod_eq_of_lt hi]
    · have hl : (n + 1) * z.length = n * z.length + z.length := by rw [Nat.add_mul, Nat.one_mul]
      rw [List.getElem?_append_right (by omega), reps_get z n (i - z.length) (by omega)]
      congr 1
      exact (Nat.mod_eq_sub_mod (by omega)).symm

def bytesA (s : ByteArray) : List AV := s.data.toList.map fun b => .int .u8 b.toNat

def newOp (C : Cx) (ρ : Operand → Option AV) (op : Op) : Option (ABlk × (Nat → AV)) :=
  match op with
  | .alloc t => (C.T t).bind fun i => if i.zero.all AV.sc then some (.cells i.zero, fun β => .ptr β 0) else none
  | .box _ x => (ρ x).bind fun v => match v with
    | .tuple _ => none
    | v => if (aCells v).all AV.sc then some (.cells (aCells v), fun β => .ptr β 0) else none
  | .buildSlice t len parts => (C.T t).bind fun i => match i.desc with
    | .slice e => (C.T e).bind fun ei => (omap (fun p : Nat × Operand => (ρ p.2).map fun v => (p.1, v)) parts.toList).bind fun ps =>
      if len * ei.size ≤ 2 ^ 24 ∧ ei.zero.length = ei.size then
        (afill (fun i => some (i * ei.size, ei.size)) (reps ei.zero len) ps).bind fun cs =>
          if cs.all AV.sc then some (.cells cs, fun β => .slice β 0 len (some len) ei.size) else none
      else none
    | _ => none
  | .makeSlice t l c => (ρ l).bind fun lv => (ρ c).bind fun cv => match lv, cv with
    | .int _ l, .int _ c => (C.T t).bind fun i => match i.desc with
      | .slice e => (C.T e).bind fun ei =>
        if 0 ≤ l ∧ l ≤ c ∧ c < 2 ^ 62 ∧ ei.bytes * c ≤ 2 ^ 48 ∧ ei.zero.length = ei.size ∧ ei.zero.all AV.sc = true then
          some (.cells (reps ei.zero c.toNat), fun β => .slice β 0 l.toNat (some c.toNat) ei.size) else none
      | _ => none
    | _, _ => none
  | .makeMap t r => match r with
    | none => some (.map [], .map)
    | some x => (ρ x).bind fun v => (C.T t).bind fun i => match i.desc, v with
      | .map _ _, .int _ _ => some (.map [], .map)
      | _, _ => none
  | .convert s d x => (ρ x).bind fun v => (C.T s).bind fun _ => (C.T d).bind fun di => match di.desc, v with
    | .slice e, .str s => (C.T e).bind fun ei => match ei.desc with
      | .int .u8 => if ei.size = 1 then some (.cells (bytesA s), fun β => .slice β 0 s.size none 1) else none
      | _ => none
    | _, _ => none
  | .range t x => (ρ x).bind fun v => (C.T t).bind fun i => match i.desc, v with
    | .string, .str s => some (.siter s 0, fun β => .ptr β 0)
    | _, _ => none
  | _ => none
end Go.Am

namespace Go.Am
open Go
section
variable {C : Cx} {φ : Env} {w : World}

/-- what a new block's relation needs, whatever the world becomes -/
def NewRel (φ : Env) (w w₁ : World) (B : ABlk) (mk : Nat → AV) (y : Value) : Prop :=
  ∀ φ' β, Ext φ w φ' w₁ → φ' β = .live w.heap.size 0 → BRel φ' w₁ B w.heap.size 0 ∧ VRel φ' w₁ (mk β) y

theorem brel_row {φ' : Env} {w₁ : World} {cs : List AV} {vs : Array Value} {t : TypeId} {fr : Nat × Nat} {b : Nat} (hb : w₁.heap[b]? = some (.cells vs t fr))
    (hfr : ∀ i, i < vs.size → ¬ (fr.1 ≤ i ∧ i < fr.2)) (hv : VRels φ' w₁ cs vs.toList) (hs : cs.all AV.sc = true) : BRel φ' w₁ (.cells cs) b 0 := by
  refine ⟨vs, t, fr, hb, hfr, ?_, fun i v hi => ?_⟩
  · have := hv.length; simp at this; omega
  · obtain ⟨x, hx, hr⟩ := hv.get hi
    refine ⟨x, ?_, ?_, hr⟩
    · rw [Nat.zero_add, ← Array.getElem?_toList]; exact hx
    · rw [List.all_eq_true] at hs; exact hs v (List.mem_of_getElem? hi)

theorem wnew_obj (w : World) (o : Obj) : WNew w { w with heap := w.heap.push o } o := ⟨rfl, rfl, rfl, rfl⟩
theorem push_modify {α : Type} (a : Array α) (x : α) (f : α → α) : (a.push x).modify a.size f = a.push (f x) := by
  apply Array.ext_getElem?
  intro i
  simp only [Array.getElem?_modify, Array.getElem?_push]
  by_cases h : i = a.size
  · subst h; simp
  · rw [if_neg (fun e => h e.symm), if_neg h, if_neg h]
theorem wnew_row (w : World) (vs : Array Value) (t : TypeId) : WNew w { w with heap := w.heap.push (.cells vs t) } (.cells vs t) := ⟨rfl, rfl, rfl, rfl⟩

theorem zero_reps {z : List AV} {zs : Array Value} (hz : omap ofSc zs.toList = some z) (n m : Nat) (hm : m = n * z.length) :
    VRels φ w (reps z n) ((Array.range m).map (zs[· % zs.size]!)).toList := by
  have hl : zs.size = z.length := by have := (omap_rel (φ := φ) (w := w) hz).1.length; simpa using this
  refine VRels.mk (by rw [reps_length]; simp [hm]) fun i c hc => ?_
  have hi : i < n * z.length := by
    rw [← reps_length]
    rcases Nat.lt_or_ge i (reps z n).length with h | h
    · exact h
    · rw [List.getElem?_eq_none h] at hc; cases hc
  rw [reps_get z n i hi] at hc
  obtain ⟨x, hx, hr⟩ := (omap_rel (φ := φ) (w := w) hz).1.get hc
  have hzp : 0 < z.length := by
    rcases Nat.eq_zero_or_pos z.length with h | h
    · rw [h] at hi; simp at hi
    · exact h
  refine ⟨x, ?_, hr⟩
  have him : i % zs.size < zs.size := by rw [hl]; exact Nat.mod_lt _ hzp
  rw [Array.getElem?_toList] at hx
  rw [← hl] at hx
  simp only [Array.toList_map, Array.toList_range, List.getElem?_map]
  rw [List.getElem?_range (by omega)]
  simp only [Option.map_some, Option.some.injEq]
  rw [getElem!_pos zs _ him]
  rw [Array.getElem?_eq_getElem him] at hx
  exact Option.some.inj hx

theorem bytesA_rel (s : ByteArray) : VRels φ w (bytesA s) (s.data.map fun b => Value.int .u8 b.toNat).toList := by
  refine VRels.mk (by simp [bytesA]) fun i c hc => ?_
  simp only [bytesA, List.getElem?_map, Option.map_eq_some_iff] at hc
  obtain ⟨b, hb, rfl⟩ := hc
  exact ⟨.int .u8 b.toNat, by simp only [Array.toList_map, List.getElem?_map, hb, Option.map_some], rfl⟩

theorem newOp_sound (hC : C.Ok) {ρ : Operand → Option AV} {ρ' : Operand → Value} (hρ : OpsRel φ w ρ ρ') {o : Oper} {B : ABlk} {mk : Nat → AV} (he : newOp C ρ o.op = some (B, mk)) :
    ∃ y w₁ ob, (execOp ρ' o).run C.P w = .ok (.value y) w₁ ∧ WNew w w₁ ob ∧ NewRel φ w w₁ B mk y := by
  unfold newOp at he
  unfold execOp
  split at he
  · -- alloc
    rename_i t e
    rw [e]
    obtain ⟨i, hi, h1⟩ := Option.bind_eq_some_iff.1 he
    split at h1
    · rename_i hs
      cases h1
      obtain ⟨z, rz, hz⟩ := run_zero hC hi w
      refine ⟨.pointer (some ⟨w.heap.size, 0, none⟩), _, _, ?_, wnew_row w z.cells t, ?_⟩
      · simp only [Instr.alloc, Sem.run_bind, rz, Result.andThen, newVar, newRow, run_newObj, Sem.run_pure]
      · intro φ' β hx hβ
        have hzr := (omap_rel (φ := φ') (w := { w with heap := w.heap.push (.cells z.cells t) }) hz).1
        exact ⟨brel_row (wnew_row w z.cells t).new (by intro i _; simp) hzr hs, _, rfl, (by rw [hβ]; rfl), rfl⟩
    · cases h1
  · -- box
    rename_i t x e
    rw [e]
    obtain ⟨v, hv, h1⟩ := Option.bind_eq_some_iff.1 he
    have hx := hρ _ _ hv
    have key : (∀ vs, v ≠ .tuple vs) ∧ (if (aCells v).all AV.sc then some (ABlk.cells (aCells v), fun β => AV.ptr β 0) else none) = some (B, mk) := by
      cases v
      case tuple => cases h1
      all_goals exact ⟨fun _ h => (by cases h), h1⟩
    obtain ⟨hnt, h2⟩ := key
    split at h2
    · rename_i hs
      cases h2
      have hc := (VRel.cells hx hnt).1
      refine ⟨.pointer (some ⟨w.heap.size, 0, none⟩), _, _, ?_, wnew_row w (ρ' x).cells t, ?_⟩
      · simp only [Instr.box, Sem.run_bind, Result.andThen, newVar, newRow, run_newObj, Sem.run_pure]
      · intro φ' β hx' hβ
        exact ⟨brel_row (wnew_row w (ρ' x).cells t).new (by intro i _; simp) (VRels.ext hx' _ _ hc) hs, _, rfl, (by rw [hβ]; rfl), rfl⟩
    · cases h2
  · -- buildSlice
    rename_i t len parts e
    rw [e]
    obtain ⟨i, hi, h1⟩ := Option.bind_eq_some_iff.1 he
    generalize hd : i.desc = D at h1
    split at h1
    · rename_i el
      obtain ⟨ei, hei, h2⟩ := Option.bind_eq_some_iff.1 h1
      obtain ⟨ps, hps, h3⟩ := Option.bind_eq_some_iff.1 h2
      split at h3
      · rename_i hlim
        obtain ⟨cs, hcs, h4⟩ := Option.bind_eq_some_iff.1 h3
        split at h4
        · rename_i hs
          cases h4
          obtain ⟨hpi, hpv⟩ := omap_parts hρ hps
          obtain ⟨z, rz, hz⟩ := run_zero hC hei w
          have hzz : VRels φ w (reps ei.zero len) ((Array.range (len * ei.size)).map ((if len * ei.size = 0 then #[] else z.cells)[· % (if len * ei.size = 0 then (#[] : Array Value) else z.cells).size]!)).toList := by
            by_cases h0 : len * ei.size = 0
            · rw [h0]
              have : (reps ei.zero len) = [] := List.length_eq_zero_iff.1 (by rw [reps_length, hlim.2]; exact h0)
              rw [this]; show _ = []; simp
            · simp only [if_neg h0]
              exact zero_reps hz len _ (by rw [hlim.2])
          obtain ⟨us, hus, hr⟩ := fill_sound (vparts := (parts.map fun (i, x) => (i, ρ' x)).toList) hcs hzz (by rw [Array.toList_map]; exact hpi) (by rw [Array.toList_map]; exact hpv)
          refine ⟨.slice (some ⟨w.heap.size, 0, none⟩) len len, _, _, ?_, wnew_row w us el, ?_⟩
          · simp only [Instr.buildSlice, Sem.run_bind, run_und hC hi, hd, Result.andThen, run_size hC hei]
            rw [if_neg (by omega)]
            by_cases h0 : len * ei.size = 0
            · simp only [if_pos h0] at hus ⊢
              simp only [Sem.run_bind, Sem.run_pure, Result.andThen]
              rw [hus]
              rfl
            · simp only [if_neg h0] at hus ⊢
              simp only [Sem.run_bind, rz, Sem.run_pure, Result.andThen]
              rw [hus]
              rfl
          · intro φ' β hx' hβ
            exact ⟨brel_row (wnew_row w us el).new (by intro i _; simp) (VRels.ext hx' _ _ hr) hs, _, _, rfl, by rw [hβ]; exact fun _ => rfl, Nat.le_refl _, (by intro c0 h; cases h; rfl), (by intro h; cases h), rfl⟩
        · cases h4
      · cases h3
    · cases h1
  · -- makeSlice
    rename_i t l c e
    rw [e]
    obtain ⟨lv, hlv, h1⟩ := Option.bind_eq_some_iff.1 he
    obtain ⟨cv, hcv, h2⟩ := Option.bind_eq_some_iff.1 h1
    split at h2
    · rename_i k1 l' k2 c'
      have hl : ρ' l = .int k1 l' := hρ _ _ hlv
      have hc : ρ' c = .int k2 c' := hρ _ _ hcv
      obtain ⟨i, hi, h3⟩ := Option.bind_eq_some_iff.1 h2
      generalize hd : i.desc = D at h3
      split at h3
      · rename_i el
        obtain ⟨ei, hei, h4⟩ := Option.bind_eq_some_iff.1 h3
        split at h4
        · rename_i hlim
          obtain ⟨g1, g2, g3, g4, g5, g6⟩ := hlim
          cases h4
          obtain ⟨z, rz, hz⟩ := run_zero hC hei w
          obtain ⟨inf, rinf, hby, hsz⟩ := run_bytes hC hei w
          have w1 : IntKind.i64.wrap l' = l' := IntWalk.i64_in _ (by omega)
          have w2 : IntKind.i64.wrap c' = c' := IntWalk.i64_in _ (by omega)
          have hzz : VRels φ w (reps ei.zero c'.toNat) ((Array.range (c'.toNat * ei.size)).map ((if c'.toNat * ei.size = 0 then #[] else z.cells)[· % (if c'.toNat * ei.size = 0 then (#[] : Array Value) else z.cells).size]!)).toList := by
            by_cases h0 : c'.toNat * ei.size = 0
            · rw [h0]
              have : (reps ei.zero c'.toNat) = [] := List.length_eq_zero_iff.1 (by rw [reps_length, g5]; exact h0)
              rw [this]; show _ = []; simp
            · simp only [if_neg h0]
              exact zero_reps hz c'.toNat _ (by rw [g5])
          have hall : (reps ei.zero c'.toNat).all AV.sc = true := by
            generalize c'.toNat = n
            induction n with
            | zero => rfl
            | succ n ih => simp only [reps, List.all_append, g6, ih, Bool.and_self]
          obtain ⟨zs, hzs⟩ : ∃ zs : Array Value, zs = (Array.range (c'.toNat * ei.size)).map ((if c'.toNat * ei.size = 0 then #[] else z.cells)[· % (if c'.toNat * ei.size = 0 then (#[] : Array Value) else z.cells).size]!) := ⟨_, rfl⟩
          rw [← hzs] at hzz
          refine ⟨.slice (some ⟨w.heap.size, 0, none⟩) l'.toNat c'.toNat, _, _, ?_, wnew_row w zs el, ?_⟩
          · simp only [Instr.makeSlice, Sem.run_bind, run_und hC hi, hd, Result.andThen, hl, hc, asInt, asIntOf_run, Sem.run_pure, rinf, hby, w1, w2]
            have hbad : ¬ ((decide (c' < 0) || decide ((ei.bytes : Int) * c' > 2 ^ 48) || decide (l' < 0) || decide (l' > c')) = true) := by
              simp only [Bool.or_eq_true, decide_eq_true_eq, not_or]; omega
            rw [if_neg hbad]
            simp only [Sem.run_bind, run_askRoom, Result.andThen, run_size hC hei]
            by_cases h0 : c'.toNat * ei.size = 0
            · simp only [if_pos h0] at hzs ⊢
              subst hzs
              rfl
            · simp only [if_neg h0] at hzs ⊢
              simp only [Sem.run_bind, rz, Sem.run_pure, Result.andThen]
              subst hzs
              rfl
          · intro φ' β hx' hβ
            exact ⟨brel_row (wnew_row w zs el).new (by intro i _; simp) (VRels.ext hx' _ _ hzz) hall, _, _, rfl, by rw [hβ]; exact fun _ => rfl, by omega, (by intro c0 h; cases h; rfl), (by intro h; cases h), rfl⟩
        · cases h4
      · cases h3
    · cases h2
  · -- makeMap
    rename_i t r e
    rw [e]
    have fin : ∀ w₁, w₁ = { w with heap := w.heap.push (.map #[] 0) } → WNew w w₁ (.map #[] 0) ∧ NewRel φ w w₁ (.map []) .map (.map (some w.heap.size)) := by
      rintro w₁ rfl
      exact ⟨wnew_obj w _, fun φ' β hx hβ => ⟨⟨rfl, #[], 0, (wnew_obj w _).new, rfl, List.Pairwise.nil, by simp⟩, _, rfl, by rw [hβ]; exact ⟨rfl, rfl⟩⟩⟩
    split at he
    · cases he
      exact ⟨_, _, _, rfl, (fin _ rfl).1, (fin _ rfl).2⟩
    · rename_i x
      obtain ⟨v, hv, h1⟩ := Option.bind_eq_some_iff.1 he
      obtain ⟨i, hi, h2⟩ := Option.bind_eq_some_iff.1 h1
      generalize hd : i.desc = D at h2
      split at h2
      · cases h2
        have hx : ρ' x = .int _ _ := hρ _ _ hv
        refine ⟨.map (some w.heap.size), _, _, ?_, (fin _ rfl).1, (fin _ rfl).2⟩
        simp only [Instr.makeMap, Option.map_some, hx, Sem.run_bind, run_und hC hi, hd, Result.andThen, asInt, asIntOf_run, Sem.run_pure, run_newObj]
      · cases h2
  · -- string to bytes
    rename_i s d x e
    rw [e]
    obtain ⟨v, hv, h1⟩ := Option.bind_eq_some_iff.1 he
    obtain ⟨si, hsi, h2⟩ := Option.bind_eq_some_iff.1 h1
    obtain ⟨di, hdi, h3⟩ := Option.bind_eq_some_iff.1 h2
    generalize hd : di.desc = D at h3
    split at h3
    · rename_i el st
      obtain ⟨ei, hei, h4⟩ := Option.bind_eq_some_iff.1 h3
      generalize hed : ei.desc = E at h4
      split at h4
      · split at h4
        · rename_i hsz
          cases h4
          have hx : ρ' x = .string st := hρ _ _ hv
          let cap := (Question.appendCap st.size 0 el).cut (w.tape w.drawn (.appendCap st.size 0 el))
          have hcap : st.size ≤ cap := by
            show st.size ≤ st.size + _ % _
            omega
          let vs : Array Value := (st.data.map fun b => Value.int .u8 b.toNat) ++ Array.replicate (cap - st.size) (.int .u8 0)
          have hvsz : vs.size = cap := by
            have e1 : st.data.size = st.size := rfl
            show ((st.data.map fun b => Value.int .u8 b.toNat) ++ Array.replicate (cap - st.size) (Value.int .u8 0)).size = cap
            rw [Array.size_append, Array.size_map, Array.size_replicate, e1]; omega
          let w₂ : World := { { w with drawn := w.drawn + 1 } with heap := w.heap.push (.cells vs el) }
          have hshape : w₂.shape? w.heap.size = some (el, vs.size) := by
            show (match (w.heap.push (.cells vs el))[w.heap.size]? with | some (.cells c elem _) => some (elem, c.size) | _ => none) = _
            rw [Array.getElem?_push, if_pos rfl]
          have hfz : w₂.freeze { block := w.heap.size, off := vs.size } 1 = { w₂ with heap := w.heap.push (.cells vs el (vs.size, vs.size + 1)) } := by
            simp only [World.freeze, if_neg (show ¬ (1 = 0) by omega)]
            congr 1
            exact push_modify _ _ _
          refine ⟨.slice (some ⟨w.heap.size, 0, none⟩) st.size cap, { w₂ with heap := w.heap.push (.cells vs el (vs.size, vs.size + 1)) }, _, ?_, ⟨rfl, rfl, rfl, rfl⟩, ?_⟩
          · rw [← hfz]
            have hcv : (convert s d (ρ' x)).run C.P w = (Conv.stringToBytes el st).run C.P w := by
              simp only [convert, Sem.run_bind, run_und hC hsi, run_und hC hdi, hd, Result.andThen, hx, run_und hC hei, hed]
            rw [Sem.run_bind, hcv]
            have hsb : (Conv.stringToBytes el st).run C.P w = .ok (.slice (some ⟨w.heap.size, 0, none⟩) st.size cap) (w₂.freeze { block := w.heap.size, off := vs.size } 1) := by
              simp only [Conv.stringToBytes, Sem.run_bind, run_choose, Question.forced, Bool.false_eq_true, if_false, Result.andThen, newRow, run_newObj, Sem.run_pure]
              have hm : (markStringish ⟨w.heap.size, 0, none⟩).run C.P w₂ = .ok () (w₂.freeze { block := w.heap.size, off := vs.size } 1) := by
                simp only [markStringish, Sem.run_bind, run_shape, Result.andThen, hshape, run_freeze]
              exact (congrArg (fun r => Result.andThen r fun _ w' => Result.ok (Value.slice (some ⟨w.heap.size, 0, none⟩) st.size cap) w') hm)
            rw [hsb]; rfl
          · intro φ' β hx' hβ
            refine ⟨?_, _, _, rfl, by rw [hβ]; exact fun _ => rfl, hcap, (by intro c0 h; cases h), ?_⟩
            · have hv0 : VRels φ' { w₂ with heap := w.heap.push (.cells vs el (vs.size, vs.size + 1)) } (bytesA st) (st.data.map fun b => Value.int .u8 b.toNat).toList := bytesA_rel st
              refine ⟨vs, el, (vs.size, vs.size + 1), ?_, ?_, ?_, ?_⟩
              · show (w.heap.push (.cells vs el (vs.size, vs.size + 1)))[w.heap.size]? = _
                rw [Array.getElem?_push, if_pos rfl]
              · intro i hi h2; simp at h2; omega
              · have := hv0.length; simp at this; rw [hvsz]; simp [← this]; exact hcap
              · intro i v hi
                obtain ⟨x, hx1, hr⟩ := hv0.get hi
                refine ⟨x, ?_, ?_, hr⟩
                · rw [Nat.zero_add, ← Array.getElem?_toList, Array.toList_append]
                  rw [List.getElem?_append_left]
                  · exact hx1
                  · rcases Nat.lt_or_ge i (st.data.map fun b => Value.int .u8 b.toNat).toList.length with h | h
                    · exact h
                    · rw [List.getElem?_eq_none h] at hx1; cases hx1
                · simp only [bytesA, List.getElem?_map, Option.map_eq_some_iff] at hi
                  obtain ⟨b, _, rfl⟩ := hi; rfl
            · refine ⟨fun _ => ?_, rfl⟩
              rw [hβ]
              intro _
              refine ⟨el, vs.size, ?_, by rw [hvsz]; omega⟩
              show (match (w.heap.push (.cells vs el (vs.size, vs.size + 1)))[w.heap.size]? with | some (.cells c elem _) => some (elem, c.size) | _ => none) = _
              rw [Array.getElem?_push, if_pos rfl]
        · cases h4
      · cases h4
    · cases h3
  · -- range over a string
    rename_i t x e
    rw [e]
    obtain ⟨v, hv, h1⟩ := Option.bind_eq_some_iff.1 he
    obtain ⟨i, hi, h2⟩ := Option.bind_eq_some_iff.1 h1
    generalize hd : i.desc = D at h2
    split at h2
    · rename_i st
      cases h2
      have hx : ρ' x = .string st := hρ _ _ hv
      refine ⟨.pointer (some ⟨w.heap.size, 0, none⟩), { w with heap := w.heap.push (.stringIter st 0) }, _, ?_, ⟨rfl, rfl, rfl, rfl⟩, ?_⟩
      · simp only [Instr.range, hx, Sem.run_bind, run_und hC hi, hd, Result.andThen, Sem.run_pure, run_newObj]
      · intro φ' β hx' hβ
        exact ⟨⟨rfl, (wnew_obj w _).new⟩, _, rfl, (by rw [hβ]; rfl), rfl⟩
    · cases h2
  · cases he
end
end Go.Am

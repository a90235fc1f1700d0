/- The operations: each does to worlds what is said of it on pure values (7): new arrays, lengths; all operations in one. The operations: each does to worlds what is said of it on pure values (8): maps. All operations that are no calls of functions, in one theorem. -/
import Derived.Test.YtmeekpinkfpnhabP03
import Derived.MapKept
import Derived.Laws.IdiomRangeMap
set_option linter.unusedSimpArgs false
set_option linter.unusedSectionVars false
set_option linter.unusedVariables false
set_option linter.unnecessarySimpa false
set_option linter.all false
namespace Go.Proofs.Ytmeekpinkfpnhab
open Go.RowKit
section
variable {P : Program} {w0 w : World} {h : Heap} {k : Nat} {m : Mem} {β : Bl} {nm : Nm}
theorem flat_get {cs : List AV} : ∀ (n i : Nat), i < n * cs.length → (List.replicate n cs).flatten[i]? = cs[i % cs.length]?
  | 0, i, hi => by simp at hi
  | n + 1, i, hi => by
    rw [List.replicate_succ, List.flatten_cons]
    by_cases hl : i < cs.length
    · rw [List.getElem?_append_left hl, Nat.mod_eq_of_lt hl]
    · rw [List.getElem?_append_right (by omega), flat_get n (i - cs.length) (by rw [Nat.add_mul] at hi; omega), ← Nat.mod_eq_sub_mod (by omega)]
theorem makeSlice_ok {t : TypeId} {vl vc : Value} {al ac : AV} (H : HRel P w0 h k m β w) (hbn : β nm = none) (hk : nm.1 < k) (hl : R m β vl al) (hc : R m β vc ac) (hok : okMakeSlice P t al ac) :
    VRes P w0 h k m β w nm (effMakeSlice P nm t al) (Instr.makeSlice t vl vc) := by
  obtain ⟨hs, h1, h2, h3, h4, h5, h6, h7, hz⟩ := hok
  obtain ⟨i, z, hi, hz0, hzs, hsi, hone, hzA⟩ := zeroOk_of hz
  have hI : (P.info? (elT P t)).isSome = true := by simp [hi]
  obtain ⟨k1, rfl⟩ := hl.int h1
  obtain ⟨k2, rfl⟩ := hc.int h2
  rw [h3]
  clear h3
  obtain ⟨N, hN⟩ : ∃ N : Nat, intOf' al = N := ⟨(intOf' al).toNat, by omega⟩
  rw [hN] at hl h4 h5 ⊢
  have hw : IntKind.i64.wrap (N : Int) = N := wrap_i64 (by omega) (by omega)
  have hb : i.bytes ≤ 1024 := by simpa [bytesT, hi] using h6
  have hbn' : ¬ ((i.bytes : Int) * (N : Int) > 281474976710656) := by
    have h8 : N ≤ 16777216 := by omega
    have : i.bytes * N ≤ 1024 * 16777216 := Nat.mul_le_mul hb h8
    have h9 : ((i.bytes * N : Nat) : Int) = (i.bytes : Int) * (N : Int) := by simp
    omega
  obtain ⟨hc1, hc2⟩ := constAV_cells (m := m) (β := β) hone
  have hzl : (zeroAV P (elT P t)).length = szT P (elT P t) := by rw [hzA, ← hc1, hzs]
  have hrun : ∀ cells : Array Value, (if N * szT P (elT P t) = 0 then cells = #[] else cells = (Array.range (N * szT P (elT P t))).map (z.cells[· % z.cells.size]!)) → (Instr.makeSlice t (.int k1 N) (.int k2 N)).run P w = .ok (.slice (some ⟨w.heap.size, 0, none⟩) N N) (w.alloc (.cells cells (elT P t))) := by
    intro cells hcells
    by_cases h0 : N * szT P (elT P t) = 0
    · rw [if_pos h0] at hcells
      subst hcells
      have hN0 : N = 0 := by rcases Nat.mul_eq_zero.1 h0 with h | h <;> omega
      subst hN0
      have hw0 : IntKind.i64.wrap 0 = 0 := wrap_i64 (by omega) (by omega)
      simp [Instr.makeSlice, run_underlying (slT_of hs), asInt, asIntOf, typeInfo, hi, hw0, run_sizeOf' hI, newRow]
      have e0 : Array.range 0 = #[] := by decide
      rw [e0, Array.map_empty]
    · rw [if_neg h0] at hcells
      have hN0 : N ≠ 0 := fun e => h0 (by rw [e]; simp)
      have hs0 : szT P (elT P t) ≠ 0 := by omega
      subst hcells
      have hzr := run_zero hi hz0 w
      have hneg : ¬ ((N : Int) < 0) := by omega
      simp only [Instr.makeSlice, Sem.run_bind, run_underlying (slT_of hs), Result.andThen_ok, asInt, asIntOf, Sem.run_pure, typeInfo, run_program, hi, hw]
      have e2 : ¬ ((2 : Int) ^ 48 < (i.bytes : Int) * (N : Int)) := by simpa using hbn'
      simp only [e2, hneg, gt_iff_lt, Int.lt_irrefl, decide_false, Bool.or_false, Bool.false_or, Bool.false_eq_true, if_false, Sem.run_pure, Result.andThen_ok, run_askRoom, Sem.run_bind, run_sizeOf' hI, Int.toNat_natCast]
      rw [if_neg h0]
      simp [hzr, newRow]
  have hcs : ∀ cells : Array Value, (if N * szT P (elT P t) = 0 then cells = #[] else cells = (Array.range (N * szT P (elT P t))).map (z.cells[· % z.cells.size]!)) → cells.size = N * szT P (elT P t) := by
    intro cells hcells
    split at hcells
    · rename_i h0; subst hcells; simp [h0]
    · subst hcells; simp
  obtain ⟨cells, hcells⟩ : ∃ cells : Array Value, (if N * szT P (elT P t) = 0 then cells = #[] else cells = (Array.range (N * szT P (elT P t))).map (z.cells[· % z.cells.size]!)) := by
    split
    · exact ⟨_, rfl⟩
    · exact ⟨_, rfl⟩
  refine ⟨_, _, m, updB β nm ⟨w.heap.size, 0, none⟩, hrun cells hcells, .rfl' m, updB_le (le_new hbn), fun n hn => updB_none hn, ?_, ?_⟩
  · simp only [effMakeSlice, Eff.ap, List.foldl_cons, List.foldl_nil, hN, Int.toNat_natCast]
    refine H.alloc hbn hk (by rw [hcs _ hcells]; simp [hzl]) fun q v a hv ha => ?_
    have hq : q < N * szT P (elT P t) := by have := (Array.getElem?_eq_some_iff.1 hv).1; rw [hcs _ hcells] at this; exact this
    rw [if_neg (by omega)] at hcells
    subst hcells
    rw [flat_get _ _ (by rw [hzl]; exact hq), hzl, hzA] at ha
    simp only [Array.getElem?_map, Array.getElem?_range, hq, if_true, Option.map_some, Option.some.injEq] at hv
    have hm : q % szT P (elT P t) < z.cells.size := by rw [hzs]; exact Nat.mod_lt _ h7
    rw [hzs, getElem!_pos z.cells _ hm] at hv
    exact hc2 _ v a (by rw [Array.getElem?_eq_getElem hm, hv]) ha
  · simp only [effMakeSlice, hN, Int.toNat_natCast]
    exact .arr (p := ⟨w.heap.size, 0, none⟩) (updB_self _ _ _) rfl (Nat.le_refl _) (by unfold maxLen; omega) (.inr rfl)
theorem len_ok {t ty : TypeId} {v : Value} {a : AV} (H : HRel P w0 h k m β w) (hv : R m β v a) (hok : okLen P t a) : VRes P w0 h k m β w nm (pure' (.d (.v (.int .i64 ((lenA a).getD 0))))) (Builtin.len_ #[t] ty #[v]) := by
  have hsl : ∀ a0 n cap, slT P t = true → v = .slice a0 n cap → (lenA a) = some n → VRes P w0 h k m β w nm (pure' (.d (.v (.int .i64 ((lenA a).getD 0))))) (Builtin.len_ #[t] ty #[v]) := by
    intro a0 n cap hs hv hl
    subst hv
    refine VRes.same (v := .int .i64 n) H ?_ rfl (by rw [hl]; exact .d (.v rfl))
    simp [Builtin.len_, run_underlying (slT_of hs), goInt]
  cases hv with
  | d hd =>
    cases hd with
    | @v x hx =>
      cases v with
      | string s =>
        refine VRes.same (v := .int .i64 s.size) H ?_ rfl (.d (.v rfl))
        simp [Builtin.len_, run_underlying (strT_of hok), goInt]
      | _ => obtain ⟨_, h2⟩ := hok; simp [lenA] at h2
    | nil => exact hsl _ _ _ hok.1 rfl rfl
    | sl hn _ _ _ _ _ => exact hsl _ _ _ hok.1 rfl (by rw [hn]; rfl)
    | st => obtain ⟨_, h2⟩ := hok; simp [lenA] at h2
  | nil => exact hsl _ _ _ hok.1 rfl rfl
  | own hr hb hv hl ha =>
    generalize hxx : DV.sl _ = y at hr
    cases hr with
    | nil => cases hxx; exact hsl _ _ _ hok.1 rfl rfl
    | sl hn _ _ _ _ _ => cases hxx; exact hsl _ _ _ hok.1 rfl (by rw [hn]; rfl)
    | _ => cases hxx
  | arr hb hver hc hm ho => exact hsl _ _ _ hok.1 rfl rfl
  | gro hx hb hv hl ha => obtain ⟨a, c, rfl⟩ := hx; exact hsl _ _ _ hok.1 rfl rfl
  | _ => obtain ⟨_, h2⟩ := hok; simp [lenA] at h2
theorem R.i64 {v : Value} {a : AV} (hv : R m β v a) (ha : isI64 a = true) : v = .int .i64 (intOf' a) := by
  cases hv with
  | d hd =>
    cases hd with
    | v _ =>
      cases v with
      | int kk n => cases kk <;> first | rfl | simp [isI64] at ha
      | _ => simp [isI64] at ha
    | _ => simp [isI64] at ha
  | _ => simp [isI64] at ha
def opndOk (n : Nat) : Operand → Bool
  | .tmp i => decide (i < n)
  | .const v => v.cells.all (·.oneCell')
  | _ => true
def opOk (n : Nat) (op : Op) : Bool := op.operands.all (opndOk n)
theorem ev_ok {s : St} {a : Act} {n : Nat} (hT : TRel m β s.t a.tmps) (hn : a.tmps.size = n) {x : Operand} (hx : opndOk n x = true) : R m β (a.eval x) (s.ev x) := by
  refine hT.ev hn x ?_ ?_
  · cases x <;> first | exact hx | rfl
  · intro v e
    subst e
    simp only [opndOk, Array.all_eq_true_iff_forall_mem] at hx
    exact hx
def NRes (P : Program) (w0 : World) (h : Heap) (k : Nat) (m : Mem) (β : Bl) (w : World) (nm : Nm) (e : Eff) (s : Sem Next) : Prop :=
  ∃ v w' m' β', (s.run P w = .ok (.value v) w' ∨ s.run P w = .ok .skip w' ∧ v = undef) ∧ m.le m' ∧ β.le β' ∧ (∀ n, n ≠ nm → β n = none → β' n = none) ∧ HRel P w0 (e.ap h) k m' β' w' ∧ R m' β' v e.val
theorem NRes.val {e : Eff} {s : Sem Value} (hv : VRes P w0 h k m β w nm e s) : NRes P w0 h k m β w nm e (do pure (.value (← s))) := by
  obtain ⟨v, w', m', β', h1, h2⟩ := hv
  exact ⟨v, w', m', β', .inl (by simp [h1]), h2⟩
theorem NRes.unit {e : Eff} {s : Sem Unit} (hv : URes P w0 h k m β w e s) : NRes P w0 h k m β w nm e (do s; pure .skip) := by
  obtain ⟨w', m', β', h1, h2, h3, h4, h5, h6⟩ := hv
  refine ⟨undef, w', m', β', .inr ⟨by simp [h1], rfl⟩, h2, h3, fun n _ hn => h4 n hn, h5, by rw [h6]; exact .junk⟩
theorem NRes.pure {a : AV} {v : Value} (H : HRel P w0 h k m β w) (hv : R m β v a) : NRes P w0 h k m β w nm (pure' a) (Pure.pure (.value v)) :=
  ⟨v, w, m, β, .inl rfl, .rfl' m, .rfl' β, fun _ _ h => h, H, hv⟩
theorem parts_ok {s : St} {a : Act} {n : Nat} (hT : TRel m β s.t a.tmps) (hn : a.tmps.size = n) {ps : Array (Nat × Operand)} (hps : ∀ x ∈ ps, opndOk n x.2 = true) :
    (ps.map fun x => (x.1, a.eval x.2)).size = (ps.toList.map fun x => (x.1, s.ev x.2)).length ∧ ∀ (i : Nat) (x : Nat × Value) (y : Nat × AV), (ps.map fun x => (x.1, a.eval x.2))[i]? = some x → (ps.toList.map fun x => (x.1, s.ev x.2))[i]? = some y → x.1 = y.1 ∧ R m β x.2 y.2 := by
  refine ⟨by simp, fun i x y hx hy => ?_⟩
  rw [Array.getElem?_map, Option.map_eq_some_iff] at hx
  rw [List.getElem?_map, Option.map_eq_some_iff] at hy
  obtain ⟨p, hp, rfl⟩ := hx
  obtain ⟨q, hq, rfl⟩ := hy
  rw [Array.getElem?_toList, hp] at hq
  cases hq
  exact ⟨rfl, ev_ok hT hn (hps p (Array.mem_of_getElem? hp))⟩
end
def idxM (k : Int) : List (Int × DV) → Option Nat
  | [] => none
  | p :: m => if k = p.1 then some 0 else (idxM k m).map (· + 1)
theorem idxM_some {k : Int} : ∀ {es : List (Int × DV)} {i : Nat}, idxM k es = some i → ∃ x, es[i]? = some (k, x) ∧ getM k es = some x ∧ ∀ v, putM k v es = es.set i (k, v)
  | p :: m, i, h => by
    unfold idxM at h
    by_cases hk : k = p.1
    · rw [if_pos hk] at h; cases h
      subst hk
      exact ⟨p.2, rfl, by simp [getM], fun v => by simp [putM]⟩
    · rw [if_neg hk] at h
      obtain ⟨j, hj, rfl⟩ := Option.map_eq_some_iff.1 h
      obtain ⟨x, h1, h2, h3⟩ := idxM_some hj
      exact ⟨x, by simpa using h1, by simpa [getM, hk] using h2, fun v => by simp [putM, hk, h3]⟩
theorem idxM_none {k : Int} : ∀ {es : List (Int × DV)}, idxM k es = none → getM k es = none ∧ ∀ v, putM k v es = es ++ [(k, v)]
  | [], _ => ⟨rfl, fun _ => rfl⟩
  | p :: m, h => by
    unfold idxM at h
    by_cases hk : k = p.1
    · rw [if_pos hk] at h; cases h
    · rw [if_neg hk] at h
      obtain ⟨h1, h2⟩ := idxM_none (es := m) (by simpa using h)
      exact ⟨by simpa [getM, hk] using h1, fun v => by simp [putM, hk, h2]⟩
section
variable {P : Program} {w0 w : World} {h : Heap} {k : Nat} {m : Mem} {β : Bl} {nm : Nm}
theorem mapT_of {t : TypeId} (ht : (mapT P t).isSome = true) : ∃ kt, P.underlying t = some (.map kt ((mapT P t).getD 0)) ∧ P.underlying kt = some (.int .i64) := by
  unfold mapT at ht ⊢
  cases hd : P.underlying t with
  | none => simp [hd] at ht
  | some d =>
    cases d <;> simp [hd] at ht ⊢
    rename_i kt e
    cases hk : P.underlying kt with
    | none => simp [hk] at ht
    | some d2 =>
      cases d2 <;> simp [hk] at ht ⊢
      rename_i ik
      cases ik <;> simp at ht ⊢
      exact hk
theorem findNow_idx {j : Int} : ∀ (l : List MapEntry) (es : List (Int × DV)) (i : Nat), l.length = es.length → (∀ (i : Nat) (x : MapEntry) (y : Int × DV), l[i]? = some x → es[i]? = some y → x.key = .int .i64 y.1) →
    Instr.findNow (.int .i64) (.int .i64 j) l i = some (match idxM j es with | none => none | some d => (l[d]?).map fun x => (i + d, x.val))
  | [], [], _, _, _ => rfl
  | [], _ :: _, _, h, _ => by simp at h
  | _ :: _, [], _, h, _ => by simp at h
  | x :: l, y :: es, i, h, H => by
    have h0 := H 0 x y rfl rfl
    have ih := findNow_idx (j := j) l es (i + 1) (by simpa using h) fun q a b ha hb => H (q + 1) a b (by simpa using ha) (by simpa using hb)
    unfold Instr.findNow idxM
    rw [h0]
    simp only [Instr.sameNow, if_true]
    by_cases hk : j = y.1
    · have : (j == y.1) = true := by simpa using hk
      rw [this, if_pos hk]; simp
    · have : (j == y.1) = false := by simpa using hk
      rw [this, if_neg hk]
      simp only [ih]
      cases idxM j es with
      | none => rfl
      | some d => simp [Nat.add_assoc, Nat.add_comm 1 d]
theorem run_key {kt : TypeId} (hk : P.underlying kt = some (.int .i64)) (e : Bool) (j : Int) (w : World) : (Instr.checkKey e 10000 kt (.int .i64 j)).run P w = .ok () w := by
  have : ∀ d, (Instr.checkKey e (d + 1) kt (.int .i64 j)).run P w = .ok () w := fun d => by simp [Instr.checkKey, run_underlying hk]
  obtain ⟨d, hd⟩ : ∃ d, 10000 = d + 1 := ⟨9999, rfl⟩
  rw [hd]; exact this d
theorem run_find {kt : TypeId} (hk : P.underlying kt = some (.int .i64)) {j : Int} {l : List MapEntry} {es : List (Int × DV)} (hl : l.length = es.length) (H : ∀ (i : Nat) (x : MapEntry) (y : Int × DV), l[i]? = some x → es[i]? = some y → x.key = .int .i64 y.1) (w : World) :
    (Instr.findKey kt (.int .i64 j) l).run P w = .ok (match idxM j es with | none => none | some d => (l[d]?).map fun x => (d, x.val)) w := by
  have := findNow_idx (j := j) l es 0 hl H
  simp only [Nat.zero_add] at this
  simp [Instr.findKey, run_underlying hk, this]
theorem look_ok {t : TypeId} {va vk : Value} {a j : AV} (H : HRel P w0 h k m β w) (ha : R m β va a) (hj : R m β vk j) (c : Bool) (hok : okLook P t a j h) :
    VRes P w0 h k m β w nm (effLook P t a j c h) (Instr.lookup t va vk c) := by
  obtain ⟨h1, h2, h3, h4, h5⟩ := hok
  obtain ⟨kt, hT, hK⟩ := mapT_of h1
  have ek := hj.i64 h2
  subst ek
  generalize het : (mapT P t).getD 0 = et at *
  obtain ⟨i, z, hi, hz0, hzs, hsi, hone, hzA⟩ := zeroOk_of h3
  have hzr := run_zero hi hz0 w
  have hzt : zeroT P et = some z := by simp [zeroT, hi, hz0]
  have ezd : zeroD P et = constAV z := by unfold zeroD; rw [hzt]
  have hRz : RD m z (zeroD P et).toD := by
    have hR : R m β z (zeroD P et) := by
      rw [ezd]
      have := TRel.ev (m := m) (β := β) (s := ⟨fun _ => .junk, h, k⟩) (a := { tmps := #[], defers := [] }) (n := 0) (fun i v hi => by simp at hi) rfl (.const z) rfl (fun v e c hc => by
        cases e
        obtain ⟨q, hq, rfl⟩ := Array.mem_iff_getElem.1 hc
        exact hone q _ (Array.getElem?_eq_getElem hq))
      exact this
    exact hR.toD (toD_of h4)
  have main : ∀ (l : Array MapEntry) (es : List (Int × DV)), l.size = es.length → (∀ (i : Nat) (x : MapEntry) (y : Int × DV), l[i]? = some x → es[i]? = some y → x.key = .int .i64 y.1 ∧ RD m x.val y.2) → ∀ (sm : Sem (Array MapEntry)), sm.run P w = .ok l w →
      ∃ v, (do
        let es ← sm
        Instr.checkKey es.isEmpty 10000 kt (.int .i64 (intOf' j))
        let (v, ok) ← match ← Instr.findKey kt (.int .i64 (intOf' j)) es.toList with
          | some (_, v) => pure (v, true)
          | none => pure (← zeroValue et, false)
        pure (if c then Value.tuple #[v, .bool ok] else v) : Sem Value).run P w = .ok v w ∧ R m β v (if c then .tup [.d ((getM (intOf' j) es).getD (zeroD P et).toD), .d (.v (.bool (getM (intOf' j) es).isSome))] else .d ((getM (intOf' j) es).getD (zeroD P et).toD)) := by
    intro l es hl hH sm hsm
    have hf := run_find (P := P) hK (j := intOf' j) (l := l.toList) (es := es) (by simpa using hl) (fun q x y hx hy => (hH q x y (by simpa using hx) hy).1) w
    have fin : ∀ (v : Value) (d : DV) (b : Bool), RD m v d → R m β (if c then Value.tuple #[v, .bool b] else v) (if c then .tup [.d d, .d (.v (.bool b))] else .d d) := by
      intro v d b hv
      cases c with
      | false => exact .d hv
      | true =>
        refine .tup rfl fun q x y hx hy => ?_
        match q, hx, hy with
        | 0, hx, hy => simp at hx hy; subst hx; subst hy; exact .d hv
        | 1, hx, hy => simp at hx hy; subst hx; subst hy; exact .d (.v rfl)
        | q + 2, hx, hy => simp at hy
    cases hq : idxM (intOf' j) es with
    | none =>
      obtain ⟨g1, _⟩ := idxM_none hq
      rw [hq] at hf
      refine ⟨if c then .tuple #[z, .bool false] else z, ?_, ?_⟩
      · simp only [Sem.run_bind, hsm, Result.andThen_ok, run_key hK, hf, Sem.run_pure, hzr]
      · rw [g1]; exact fin z _ false hRz
    | some d =>
      obtain ⟨x, g1, g2, _⟩ := idxM_some hq
      have hlt : d < l.size := by rw [hl]; exact (List.getElem?_eq_some_iff.1 g1).1
      have hld : l.toList[d]? = some l[d] := by simp [hlt]
      simp only [hq, hld, Option.map_some] at hf
      refine ⟨if c then .tuple #[l[d].val, .bool true] else l[d].val, ?_, ?_⟩
      · simp only [Sem.run_bind, hsm, Result.andThen_ok, run_key hK, hf, Option.map_some, Sem.run_pure]
      · rw [g2]; exact fin _ _ true (hH d l[d] _ (Array.getElem?_eq_getElem hlt) g1).2
  cases a with
  | map n =>
    cases ha with
    | @map _ p hb hv =>
      have h5 : isMapO h n := h5
      unfold isMapO at h5
      split at h5
      · rename_i es hes
        obtain ⟨p', hp', _, l, clock, g1, ⟨g2, gc, gb⟩, g3⟩ := H.obj n _ hes
        rw [hb] at hp'; cases hp'
        have hgo : (getObj p.1).run P w = .ok (.map l clock) w := by simp [getObj, Sem.run, g1]
        obtain ⟨v, e1, e2⟩ := main l es g2 g3 (pure l) rfl
        refine VRes.same H (v := v) ?_ rfl ?_
        · simp only [Sem.run_bind, Sem.run_pure, Result.andThen_ok] at e1
          simp only [Instr.lookup, Sem.run_bind, run_underlying hT, Result.andThen_ok, hgo, Sem.run_pure]
          exact e1
        · simp only [effLook, askM, mapEs, hes, het]; exact e2
      · exact h5.elim
  | d x =>
    have h5 : isNilM (.d x) := h5
    unfold isNilM at h5
    split at h5
    · rename_i e
      cases e
      cases ha with
      | d hd =>
        cases hd with
        | v _ =>
          obtain ⟨v, e1, e2⟩ := main #[] [] rfl (fun i x y hx => by simp at hx) (pure #[]) rfl
          refine VRes.same H (v := v) ?_ rfl ?_
          · simp only [Sem.run_bind, Sem.run_pure, Result.andThen_ok] at e1
            simp only [Instr.lookup, Sem.run_bind, run_underlying hT, Result.andThen_ok, Sem.run_pure]
            exact e1
          · simp only [effLook, askM, het]; exact e2
    · exact h5.elim
  | _ => exact False.elim h5
theorem makeMap_ok {t : TypeId} (H : HRel P w0 h k m β w) (hbn : β nm = none) (hk : nm.1 < k) : VRes P w0 h k m β w nm ⟨.map nm, [], [(nm, some (.map []))]⟩ (Instr.makeMap t none) := by
  refine ⟨.map (some w.heap.size), w.alloc (.map #[] 0), m, updB β nm ⟨w.heap.size, 0, none⟩, ?_, .rfl' m, updB_le (le_new hbn), fun n hn => updB_none hn, ?_, .map (p := ⟨w.heap.size, 0, none⟩) (updB_self _ _ _) rfl⟩
  · simp [Instr.makeMap]
  · refine H.upd1 (le_new hbn) hk (Below.alloc H.ext H.size _) (.rfl' m) (fun b o v hv => ?_) ⟨rfl, #[], 0, heap_alloc_new w _, ⟨rfl, rfl, fun i x hx => by simp at hx⟩, fun i x y hx => by simp at hx⟩ (fun _ => H.size) ?_
    · obtain ⟨h1, h2⟩ := H.mem b o v hv
      exact ⟨(World.cell?_alloc_lt w _ ⟨b, o, none⟩ (H.mem_lt hv)).trans h1, h2⟩
    · intro x p' ob' _ hx hp hr
      have := H.lt hx hp hr
      exact ⟨fun _ => Nat.ne_of_lt this, heap_alloc_old w _ this, fun _ => rfl⟩
theorem range_ok {t : TypeId} {va : Value} {a : AV} (H : HRel P w0 h k m β w) (hbn : β nm = none) (hk : nm.1 < k) (ha : R m β va a) (hok : okRange P t a h) : VRes P w0 h k m β w nm (effRange nm a h) (Instr.range t va) := by
  obtain ⟨h1, h5⟩ := hok
  obtain ⟨kt, hT, hK⟩ := mapT_of h1
  cases a with
  | map n =>
    cases ha with
    | @map _ q hb hv =>
      have h5 : isMapO h n := h5
      unfold isMapO at h5
      split at h5
      · rename_i es hes
        obtain ⟨p', hp', _, l, clock, g1, ⟨g2, gc, gb⟩, g3⟩ := H.obj n _ hes
        rw [hb] at hp'; cases hp'
        have hne : n ≠ nm := fun e => by subst e; rw [hb] at hbn; cases hbn
        have hmE : mapEs h n = es := by simp [mapEs, hes]
        refine ⟨.pointer (some ⟨w.heap.size, 0, none⟩), w.alloc (.mapIter (some q.1) clock #[] clock), m, updB β nm ⟨w.heap.size, 0, none⟩, ?_, .rfl' m, updB_le (le_new hbn), fun n hn => updB_none hn, ?_, .ptr (p := ⟨w.heap.size, 0, none⟩) (updB_self _ _ _) rfl⟩
        · exact run_range_map w t kt _ q.1 l clock hT g1
        · show HRel P w0 (upd h nm (some (.iter n (mapEs h n).length []))) k m _ _
          rw [hmE]
          refine H.upd1 (le_new hbn) hk (Below.alloc H.ext H.size _) (.rfl' m) (fun b o v hv => ?_) ⟨rfl, q, #[], (updB_ne _ _ hne).trans hb, hv, ?_, rfl⟩ (fun _ => H.size) ?_
          · obtain ⟨h1, h2⟩ := H.mem b o v hv
            exact ⟨(World.cell?_alloc_lt w _ ⟨b, o, none⟩ (H.mem_lt hv)).trans h1, h2⟩
          · rw [← gc]; exact heap_alloc_new w _
          · intro x p' ob' _ hx hp hr
            have := H.lt hx hp hr
            exact ⟨fun _ => Nat.ne_of_lt this, heap_alloc_old w _ this, fun _ => rfl⟩
      · exact h5.elim
  | _ => exact h5.elim
theorem entry_ok {va : Value} {a : AV} (H : HRel P w0 h k m β w) (ha : R m β va a) (hok : okEntry a h) : VRes P w0 h k m β w nm (effEntry a h) (Instr.entry va) := by
  cases a with
  | ptr n off =>
    cases off with
    | succ _ => exact False.elim hok
    | zero =>
      cases ha with
      | @ptr _ _ p hb hv =>
        cases hn : h n with
        | none => simp [okEntry, hn] at hok
        | some ob =>
          cases ob with
          | iter src sz seen =>
            simp only [okEntry, hn] at hok
            obtain ⟨h1, h2, i, h3, h4⟩ := hok
            unfold isMapO at h1
            split at h1
            · rename_i es hes
              obtain ⟨p', hp', _, q, sn, f1, f2, f3, f4⟩ := H.obj n _ hn
              rw [hb] at hp'; cases hp'
              obtain ⟨q', hq', _, l, clock, g1, ⟨g2, gc, gb⟩, g3⟩ := H.obj src _ hes
              rw [f1] at hq'; cases hq'
              have hmE : mapEs h src = es := by simp [mapEs, hes]
              rw [hmE] at h2
              have hil : i < l.size := by rw [g2, h2]; exact h4
              have hie : i < es.length := by omega
              have hg : (getObj p.1).run P w = .ok (.mapIter (some q.1) sz sn sz) w := by simp [getObj, Sem.run, f3]
              have hg' : (getObj q.1).run P w = .ok (.map l clock) w := by simp [getObj, Sem.run, g1]
              have hbk : sn.back? = some i := by
                rw [← f4] at h3
                simpa using h3
              have hfi : l.find? (fun e => e.born == i) = some l[i] := by
                rw [Array.find?_eq_some_iff_getElem]
                refine ⟨by simpa using gb i l[i] (Array.getElem?_eq_getElem hil), i, hil, rfl, fun j hj => ?_⟩
                have := gb j l[j] (Array.getElem?_eq_getElem (by omega))
                simp [this]; omega
              have hx := g3 i l[i] es[i] (Array.getElem?_eq_getElem hil) (List.getElem?_eq_getElem hie)
              refine VRes.same H (v := .tuple #[l[i].key, l[i].val]) ?_ ?_ ?_
              · have hcl : clock = sz := by rw [gc, h2]
                simp [Instr.entry, hg, hg', hbk, hfi, hcl]
              · simp [effEntry, hn]
              · simp only [effEntry, hn, hmE, h3, Option.getD_some]
                rw [List.getD_eq_getElem?_getD, List.getElem?_eq_getElem hie, Option.getD_some]
                refine .tup rfl fun j v a hj ha => ?_
                match j, hj, ha with
                | 0, hj, ha => simp at hj ha; subst hj; subst ha; rw [hx.1]; exact .d (.v rfl)
                | 1, hj, ha => simp at hj ha; subst hj; subst ha; exact .d hx.2
                | j + 2, hj, ha => simp at hj
            · exact h1.elim
          | _ => simp [okEntry, hn] at hok
  | _ => exact False.elim hok
theorem put_ok {t : TypeId} {va vk vx : Value} {a j x : AV} (H : HRel P w0 h k m β w) (ha : R m β va a) (hj : R m β vk j) (hx : R m β vx x) (hok : okPut P t a j x h) :
    URes P w0 h k m β w (effPut a j x h) (Instr.mapUpdate t va vk vx) := by
  obtain ⟨h1, h2, h3, h5⟩ := hok
  obtain ⟨kt, hT, hK⟩ := mapT_of h1
  have ek := hj.i64 h2
  subst ek
  have hd := hx.toD (toD_of h3)
  cases a with
  | map n =>
    cases ha with
    | @map _ p hb hv =>
      have h5 : isMapO h n := h5
      unfold isMapO at h5
      split at h5
      · rename_i es hes
        obtain ⟨p', hp', _, l, clock, g1, ⟨g2, gc, gb⟩, g3⟩ := H.obj n _ hes
        rw [hb] at hp'; cases hp'
        have hlt : p.1 < w.heap.size := (Array.getElem?_eq_some_iff.1 g1).1
        have hgo : (getObj p.1).run P w = .ok (.map l clock) w := by simp [getObj, Sem.run, g1]
        have hf := run_find (P := P) hK (j := intOf' j) (l := l.toList) (es := es) (by simpa using g2) (fun q x y hx hy => (g3 q x y (by simpa using hx) hy).1) w
        have hat : ∀ o, ({ w with heap := w.heap.setIfInBounds p.1 o } : World).heap[p.1]? = some o := fun o => by simp [hlt]
        have hother : ∀ o b, b ≠ p.1 → ({ w with heap := w.heap.setIfInBounds p.1 o } : World).heap[b]? = w.heap[b]? := fun o b hne => by simp [Ne.symm hne]
        have eβ : updB β n p = β := by
          funext y; unfold updB; split
          · subst_vars; exact hb.symm
          · rfl
        have fin : ∀ (l' : Array MapEntry) (clock' : Nat), (l'.size = (putM (intOf' j) x.toD es).length ∧ clock' = (putM (intOf' j) x.toD es).length ∧ ∀ (i : Nat) (x : MapEntry), l'[i]? = some x → x.born = i) → (∀ (i : Nat) (e : MapEntry) (y : Int × DV), l'[i]? = some e → (putM (intOf' j) x.toD es)[i]? = some y → e.key = .int .i64 y.1 ∧ RD m e.val y.2) →
            (Instr.mapUpdate t (.map (some p.1)) (.int .i64 (intOf' j)) vx).run P w = .ok () { w with heap := w.heap.setIfInBounds p.1 (.map l' clock') } → URes P w0 h k m β w (effPut (.map n) j x h) (Instr.mapUpdate t (.map (some p.1)) (.int .i64 (intOf' j)) vx) := by
          intro l' clock' hs hl' hrun
          refine ⟨_, m, β, hrun, .rfl' m, .rfl' β, fun _ hn => hn, ?_, rfl⟩
          simp only [effPut, Eff.ap, List.foldl_cons, List.foldl_nil, mapEs, hes]
          have hB : w0.heap.size ≤ p.1 := H.new n p _ hb hes trivial
          have := H.upd1 (n := n) (p := p) (ob := .map (putM (intOf' j) x.toD es)) (m' := m) (w' := { w with heap := w.heap.setIfInBounds p.1 (.map l' clock') }) (le_old hb) (H.dom n p hb) (H.ext.trans ⟨rfl, rfl, rfl, by simp, fun b hbb => hother _ b (by omega)⟩) (.rfl' m) (fun b o v hmv => ?_) ?_ (fun _ => hB) ?_
          · rwa [eβ] at this
          · obtain ⟨q1, q2⟩ := H.mem b o v hmv
            refine ⟨?_, q2⟩
            have hne : b ≠ p.1 := fun e => by
              subst e
              unfold World.cell? at q1
              simp [g1] at q1
            unfold World.cell? at q1 ⊢
            rw [hother _ b hne]; exact q1
          · rw [eβ]; exact ⟨hv, l', clock', hat _, hs, hl'⟩
          · intro y p' ob' hy hob hp' hr
            have hne : p'.1 ≠ p.1 := fun e => hy (H.inj y n p' p ob' _ hob hes hp' hb hr trivial e)
            exact ⟨fun _ => hne, hother _ _ hne, fun _ => rfl⟩
        cases hq : idxM (intOf' j) es with
        | none =>
          obtain ⟨_, q2⟩ := idxM_none hq
          rw [hq] at hf
          refine fin (l.push { key := .int .i64 (intOf' j), val := vx, born := clock }) (clock + 1) ⟨by simp [q2, g2], by simp [q2, gc], fun i e he => by
            rw [Array.getElem?_push] at he
            by_cases hi : i = l.size
            · subst hi; simp at he; subst he; simp only [gc, g2]
            · rw [if_neg hi] at he; exact gb i e he⟩ (fun i e y he hy => ?_) ?_
          · rw [q2] at hy
            rw [Array.getElem?_push] at he
            by_cases hi : i = l.size
            · subst hi
              simp at he
              subst he
              rw [g2, List.getElem?_append_right (Nat.le_refl _)] at hy
              simp at hy
              subst hy
              exact ⟨rfl, hd⟩
            · rw [if_neg hi] at he
              have hlt2 : i < l.size := (Array.getElem?_eq_some_iff.1 he).1
              rw [List.getElem?_append_left (by omega)] at hy
              exact g3 i e y he hy
          · simp [Instr.mapUpdate, run_underlying hT, hgo, run_key hK, hf, MapKept.run_setObj_map _ g1]
        | some d =>
          obtain ⟨u, q1, _, q2⟩ := idxM_some hq
          have hdl : d < l.size := by rw [g2]; exact (List.getElem?_eq_some_iff.1 q1).1
          have hld : l.toList[d]? = some l[d] := by simp [hdl]
          simp only [hq, hld, Option.map_some] at hf
          have hkey : ((l[d]?).map (·.key)).getD (.int .i64 (intOf' j)) = .int .i64 (intOf' j) := by
            rw [Array.getElem?_eq_getElem hdl]
            exact (g3 d l[d] _ (Array.getElem?_eq_getElem hdl) q1).1
          have hbits : Instr.sameBits 10000 (.int .i64 (intOf' j)) (.int .i64 (intOf' j)) = true := by
            have : ∀ d, Instr.sameBits d (.int .i64 (intOf' j)) (.int .i64 (intOf' j)) = true := fun d => by cases d <;> simp [Instr.sameBits]
            exact this _
          have hst : (Instr.keyThatStays (.int .i64 (intOf' j)) (.int .i64 (intOf' j))).run P w = .ok (.int .i64 (intOf' j)) w := by
            simp only [Instr.keyThatStays]
            rw [if_pos hbits]
            simp
          refine fin (l.modify d fun e => { e with key := .int .i64 (intOf' j), val := vx }) clock ⟨by simp [q2, g2], by simp [q2, gc], fun i e he => by
            rw [Array.getElem?_modify] at he
            by_cases hi : d = i
            · subst hi
              rw [if_pos rfl, Array.getElem?_eq_getElem hdl] at he
              simp at he; subst he
              exact gb d l[d] (Array.getElem?_eq_getElem hdl)
            · rw [if_neg hi] at he; exact gb i e he⟩ (fun i e y he hy => ?_) ?_
          · rw [q2, List.getElem?_set] at hy
            rw [Array.getElem?_modify] at he
            by_cases hi : d = i
            · subst hi
              rw [if_pos rfl] at he hy
              rw [Array.getElem?_eq_getElem hdl] at he
              simp at he
              subst he
              rw [if_pos (by omega)] at hy
              cases hy
              exact ⟨rfl, hd⟩
            · rw [if_neg hi] at he hy
              exact g3 i e y he hy
          · simp only [Instr.mapUpdate, Sem.run_bind, run_underlying hT, hgo, run_key hK, hf, Result.andThen_ok, hkey, hst, MapKept.run_setObj_map _ g1]
      · exact h5.elim
  | _ => exact h5.elim
end
section
variable {P : Program} {w0 w : World} {m : Mem} {β : Bl} {nm : Nm} {s : St} {a : Act} {n : Nat}
theorem evs_ok (hT : TRel m β s.t a.tmps) (hn : a.tmps.size = n) {xs : Array Operand} (hxs : ∀ x ∈ xs, opndOk n x = true) :
    (xs.map a.eval).size = (xs.toList.map s.ev).length ∧ ∀ (i : Nat) (v : Value) (b : AV), (xs.map a.eval)[i]? = some v → (xs.toList.map s.ev)[i]? = some b → R m β v b := by
  refine ⟨by simp, fun i v b hv hb => ?_⟩
  rw [Array.getElem?_map, Option.map_eq_some_iff] at hv
  rw [List.getElem?_map, Option.map_eq_some_iff] at hb
  obtain ⟨p, hp, rfl⟩ := hv
  obtain ⟨q, hq, rfl⟩ := hb
  rw [Array.getElem?_toList, hp] at hq
  cases hq
  exact ev_ok hT hn (hxs p (Array.mem_of_getElem? hp))
theorem R.bool {v : Value} {b : AV} (hv : R m β v b) (ha : isBool b = true) : v = .bool (boolOf' b) := by
  cases hv with
  | d hd =>
    cases hd with
    | v _ => cases v <;> simp_all [isBool, boolOf']
    | _ => simp [isBool] at ha
  | _ => simp [isBool] at ha
theorem isNil_run {v : Value} {A : AV} {c : Bool} (hv : R m β v A) (hc : isNilA A = some c) : ∃ a n cap, v = .slice a n cap ∧ a.isNone = c := by
  unfold isNilA at hc
  split at hc
  · cases hc; cases hv; exact ⟨_, _, _, rfl, rfl⟩
  · cases hc; cases hv; exact ⟨_, _, _, rfl, rfl⟩
  · cases hc
    cases hv with
    | d hd =>
      generalize hx : DV.sl _ = y at hd
      cases hd with
      | nil => cases hx
      | sl => exact ⟨_, _, _, rfl, rfl⟩
      | _ => cases hx
  · cases hc
theorem nil_run {b : BinOp} {t e : TypeId} {v u : Value} {A B : AV} {c : Bool} (ht : P.underlying t = some (.slice e)) (hv : R m β v A) (hu : R m β u B) (hc : nilCmp b A B = some c) (x y : Operand) : (do eqGuard b t x y v u; binOp b t v u : Sem Value).run P w = .ok (.bool c) w := by
  unfold nilCmp at hc
  split at hc
  · cases hu
    have eq : ∀ (a : Option Addr) (n cap : Nat), (Op.equal t (.slice a n cap) (.slice none 0 0)).run P w = .ok a.isNone w := by
      intro a n cap
      have : ∀ d, (Op.equalIn (d + 1) t (.slice a n cap) (.slice none 0 0)).run P w = .ok a.isNone w := fun d => by
        cases a <;> simp [Op.equalIn, run_underlying ht]
      obtain ⟨d, hd⟩ : ∃ d, Op.maxDepth = d + 1 := ⟨9999, rfl⟩
      unfold Op.equal
      rw [hd]; exact this d
    split at hc
    · obtain ⟨a, n, cap, rfl, rfl⟩ := isNil_run hv hc
      simp [eqGuard, binOp, eq]
    · obtain ⟨c', h1, rfl⟩ := Option.map_eq_some_iff.1 hc
      obtain ⟨a, n, cap, rfl, rfl⟩ := isNil_run hv h1
      simp [eqGuard, binOp, eq]
    · cases hc
  · cases hc
theorem okBuiltin_of {h : Heap} {b : Builtin} {ts : List TypeId} {az : List AV} (hok : okBuiltin P h b ts az) :
    (b = .len ∧ ∃ x t tt, az = [x] ∧ ts = t :: tt ∧ okLen P t x) ∨ (b = .append ∧ ∃ x y t, az = [x, y] ∧ ts = [t, t] ∧ okAppend P t t x y h) ∨ ((b = .min ∨ b = .max) ∧ ∃ x y, az = [x, y] ∧ isI64 x = true ∧ isI64 y = true) := by
  cases b
  case len =>
    match az, ts, hok with
    | [x], t :: tt, hok => exact .inl ⟨rfl, x, t, tt, rfl, rfl, hok⟩
  case append =>
    match az, ts, hok with
    | [x, y], [t, t'], hok =>
      have e : t = t' := hok.2.1
      subst e
      exact .inr (.inl ⟨rfl, x, y, t, rfl, rfl, hok⟩)
  case min =>
    match az, hok with
    | [x, y], hok => exact .inr (.inr ⟨.inl rfl, x, y, rfl, hok.1, hok.2⟩)
  case max =>
    match az, hok with
    | [x, y], hok => exact .inr (.inr ⟨.inr rfl, x, y, rfl, hok.1, hok.2⟩)
  all_goals
    exfalso
    revert hok
    unfold okBuiltin
    split <;> simp_all
theorem op_ok (H : HRel P w0 s.h s.k m β w) (hT : TRel m β s.t a.tmps) (hn : a.tmps.size = n) (o : Oper) (hop : opOk n o.op = true) (hbn : β nm = none) (hk : nm.1 < s.k) (hok : okOf P o.op s.ev s.h) :
    NRes P w0 s.h s.k m β w nm (effOf P nm o.op s.ev s.h) (execOp a.eval o) := by
  obtain ⟨dst, op, ty, pos, after, guard⟩ := o
  simp only [opOk, Array.all_eq_true_iff_forall_mem] at hop
  have ev := fun x hx => ev_ok hT hn (hop x hx)
  cases op with
  | move x => exact .pure H (ev x (by simp [Op.operands]))
  | assign x => exact .pure H (ev x (by simp [Op.operands]))
  | pick c x y =>
    have hc := (ev c (by simp [Op.operands])).bool hok
    refine ⟨if boolOf' (s.ev c) then a.eval x else a.eval y, w, m, β, .inl ?_, .rfl' m, .rfl' β, fun _ _ h => h, H, ?_⟩
    · simp [execOp, hc, asBool]
    · simp only [effOf, pure']
      split
      · exact ev x (by simp [Op.operands])
      · exact ev y (by simp [Op.operands])
  | alloc e => exact .val (alloc_ok H hbn hk hok)
  | box e x => exact .val (box_ok H hbn hk (ev x (by simp [Op.operands])) hok)
  | build t ps =>
    obtain ⟨h1, h2, h3⟩ := hok
    obtain ⟨h4, h5⟩ := parts_ok hT hn (ps := ps) (fun x hx => hop x.2 (by simp [Op.operands]; exact ⟨x.1, by simpa using hx⟩))
    exact .val (build_ok H h4 h5 h1 h2 h3)
  | buildSlice t len ps =>
    obtain ⟨h4, h5⟩ := parts_ok hT hn (ps := ps) (fun x hx => hop x.2 (by simp [Op.operands]; exact ⟨x.1, by simpa using hx⟩))
    exact .val (buildSlice_ok H hbn hk h4 h5 hok)
  | load t x => exact .val (load_ok H hok.1 (ev x (by simp [Op.operands])) hok.2)
  | store t x y => exact .unit (store_ok H hok.1 (ev x (by simp [Op.operands])) (ev y (by simp [Op.operands])) hok.2)
  | nilCheck x =>
    have hx := ev x (by simp [Op.operands])
    have hpl : isPlace (s.ev x) = true := hok
    have : ∃ ad, a.eval x = .pointer (some ad) := by
      clear hok
      generalize a.eval x = v at hx
      generalize s.ev x = b at hx hpl
      cases hx <;> first | exact ⟨_, rfl⟩ | simp [isPlace] at hpl
    obtain ⟨ad, had⟩ := this
    refine ⟨a.eval x, w, m, β, .inl ?_, .rfl' m, .rfl' β, fun _ _ h => h, H, hx⟩
    simp [execOp, had]
  | binOp b t x y ty' =>
    have r1 := ev x (by simp [Op.operands])
    have r2 := ev y (by simp [Op.operands])
    simp only [okOf] at hok
    simp only [effOf]
    cases hc : nilCmp b (s.ev x) (s.ev y) with
    | none =>
      rw [hc] at hok
      obtain ⟨h1, h2, h3⟩ := hok
      obtain ⟨e1, _⟩ := r1.val h1
      obtain ⟨e2, _⟩ := r2.val h2
      obtain ⟨h4, h5⟩ := bin_run (P := P) (w := w) h3 x y
      refine .val (VRes.same H ?_ rfl (.d (.v h5)))
      rw [e1, e2]
      exact h4
    | some c =>
      rw [hc] at hok
      refine .val (VRes.same (v := .bool c) H ?_ rfl (.d (.v rfl)))
      exact nil_run (slT_of hok) r1 r2 hc x y
  | unOp u t x =>
    obtain ⟨h1, h3⟩ := hok
    obtain ⟨e1, _⟩ := (ev x (by simp [Op.operands])).val h1
    obtain ⟨h4, h5⟩ := un_run (P := P) (w := w) h3
    refine .val (VRes.same H ?_ rfl (.d (.v h5)))
    rw [e1]
    exact h4
  | fieldAddr t x f =>
    obtain ⟨h1, fl, h2, h3, h4⟩ := hok
    have := fieldAddr_ok (nm := nm) H (ev x (by simp [Op.operands])) h1 h2 h3 h4
    simp only [effOf, h2, Option.getD_some]
    exact .val this
  | field t x f =>
    obtain ⟨fl, h2, h3, h4, h5⟩ := hok
    have := field_ok (nm := nm) H (ev x (by simp [Op.operands])) h5 h2 h3 h4
    simp only [effOf, h2, Option.getD_some]
    exact .val this
  | indexAddr t x i =>
    obtain ⟨h1, h2, h3⟩ := hok
    exact .val (indexAddr_ok H (ev x (by simp [Op.operands])) (ev i (by simp [Op.operands])) h1 h2 h3)
  | index t x i =>
    obtain ⟨h1, h2, h3⟩ := hok
    have hx := ev x (by simp [Op.operands])
    obtain ⟨kk, hi⟩ := (ev i (by simp [Op.operands])).int h2
    generalize hA : s.ev x = A at hx h3
    generalize hV : a.eval x = V at hx
    split at h3
    · rename_i st
      obtain ⟨h4, h5⟩ := h3
      cases hx with
      | d hd =>
        cases hd with
        | v _ =>
          have hlt : (intOf' (s.ev i)).toNat < st.size := by omega
          refine .val (VRes.same (v := .int .u8 (byteAt st (intOf' (s.ev i)).toNat)) H ?_ rfl ?_)
          · rw [hV, hi]
            have hb : byteAt st (intOf' (s.ev i)).toNat = (st[(intOf' (s.ev i)).toNat]'hlt).toNat := by
              unfold byteAt
              rw [getElem?_pos st _ hlt]
            simp only [Instr.index, Sem.run_bind, run_asIntOf', Result.andThen_ok, run_underlying (strT_of h1)]
            rw [if_pos h4, getElem?_pos st _ hlt, hb]
            rfl
          · simp only [effOf, hA]
            exact .d (.v rfl)
    · exact h3.elim
  | slice t x lo hi mx =>
    obtain ⟨h1, h2, h3⟩ := hok
    have key : ∀ (l : Option Operand), (∀ x, l = some x → opndOk n x = true) → (∀ v, l.map a.eval = some v → ∃ b, l.map s.ev = some b ∧ R m β v b) ∧ (l.map a.eval = none → l.map s.ev = none) := by
      intro l hl
      cases l with
      | none => exact ⟨fun v hv => by simp at hv, fun _ => rfl⟩
      | some x => exact ⟨fun v hv => by simp at hv; subst hv; exact ⟨_, rfl, ev_ok hT hn (hl x rfl)⟩, fun hv => by simp at hv⟩
    obtain ⟨l1, l2⟩ := key lo fun x hx => hop x (by subst hx; simp [Op.operands])
    obtain ⟨l3, l4⟩ := key hi fun x hx => hop x (by subst hx; simp [Op.operands])
    obtain ⟨l5, l6⟩ := key mx fun x hx => hop x (by subst hx; simp [Op.operands])
    exact .val (slice_ok H hbn hk (ev x (by simp [Op.operands])) l1 l2 l3 l4 l5 l6 h1 h3)
  | makeFunc f first caps =>
    obtain ⟨h1, h2⟩ := evs_ok hT hn (xs := first) (fun x hx => hop x (by simp [Op.operands, hx]))
    obtain ⟨h3, h4⟩ := evs_ok hT hn (xs := caps) (fun x hx => hop x (by simp [Op.operands, hx]))
    refine .val (VRes.same (v := .func f (first.map a.eval) (caps.map a.eval)) H rfl rfl (.fn h1 h3 h2 h4))
  | makeSlice t l c => exact .val (makeSlice_ok H hbn hk (ev l (by simp [Op.operands])) (ev c (by simp [Op.operands])) hok)
  | extract x i =>
    have hx := ev x (by simp [Op.operands])
    simp only [okOf] at hok
    simp only [effOf]
    generalize s.ev x = A at hx hok
    generalize hV : a.eval x = V at hx
    split at hok
    · rename_i vs
      cases hx with
      | @tup us _ hl hr =>
        have hu : us[i]? = some (us[i]'(by omega)) := Array.getElem?_eq_getElem (by omega)
        refine .val (VRes.same (v := us[i]'(by omega)) H ?_ rfl ?_)
        · rw [hV]
          simp [Instr.extract, hu]
        · simp only [pure']
          rw [List.getD_eq_getElem?_getD, List.getElem?_eq_getElem hok]
          exact hr i _ _ hu (List.getElem?_eq_getElem hok)
    · exact hok.elim
  | makeMap t r =>
    cases r with
    | none => exact .val (makeMap_ok H hbn hk)
    | some _ => exact hok.elim
  | entry x => exact .val (entry_ok H (ev x (by simp [Op.operands])) hok)
  | range t x => exact .val (range_ok H hbn hk (ev x (by simp [Op.operands])) hok)
  | mapUpdate t x y z => exact .unit (put_ok H (ev x (by simp [Op.operands])) (ev y (by simp [Op.operands])) (ev z (by simp [Op.operands])) hok)
  | insert t x y z => exact .unit (put_ok H (ev x (by simp [Op.operands])) (ev y (by simp [Op.operands])) (ev z (by simp [Op.operands])) hok)
  | lookup t x y c => exact .val (look_ok H (ev x (by simp [Op.operands])) (ev y (by simp [Op.operands])) c hok)
  | call c =>
    obtain ⟨callee, args, ats⟩ := c
    cases callee with
    | builtin b =>
      have hargs := evs_ok hT hn (xs := args) (fun x hx => hop x (by simp [Op.operands, Call.operands, hx]))
      have hsz : (args.map a.eval).size = (args.toList.map s.ev).length := hargs.1
      have hR := hargs.2
      simp only [okOf] at hok
      simp only [effOf]
      generalize args.toList.map s.ev = az at hok hsz hR
      have two : ∀ x y, az = [x, y] → ∃ v0 v1, args.map a.eval = #[v0, v1] ∧ R m β v0 x ∧ R m β v1 y := by
        intro x y e
        subst e
        have h2 : (args.map a.eval).size = 2 := hsz
        refine ⟨(args.map a.eval)[0]'(by omega), (args.map a.eval)[1]'(by omega), ?_, hR 0 _ x (Array.getElem?_eq_getElem (by omega)) rfl, hR 1 _ y (Array.getElem?_eq_getElem (by omega)) rfl⟩
        apply Array.ext
        · exact h2
        · intro i h3 h4
          have : i < 2 := h4
          match i, this with
          | 0, _ => rfl
          | 1, _ => rfl
      have one : ∀ x, az = [x] → ∃ v0, args.map a.eval = #[v0] ∧ R m β v0 x := by
        intro x e
        subst e
        have h2 : (args.map a.eval).size = 1 := hsz
        refine ⟨(args.map a.eval)[0]'(by omega), ?_, hR 0 _ x (Array.getElem?_eq_getElem (by omega)) rfl⟩
        apply Array.ext
        · exact h2
        · intro i h3 h4
          have : i < 1 := h4
          match i, this with
          | 0, _ => rfl
      clear hR hsz hargs
      rcases okBuiltin_of hok with ⟨rfl, x, t, tt, rfl, hat, hl⟩ | ⟨rfl, x, y, t, rfl, hat, hl⟩ | ⟨hb, x, y, rfl, h1, h2⟩
      · obtain ⟨v0, e2, r0⟩ := one x rfl
        have hat0 : ats[0]? = some t := by rw [← Array.getElem?_toList, hat]; rfl
        obtain ⟨v, w', m', β', g1, g2⟩ := len_ok (nm := nm) (ty := ty) H r0 hl
        refine ⟨v, w', m', β', .inl ?_, ?_⟩
        · have e3 : Builtin.len_ ats ty #[v0] = Builtin.len_ #[t] ty #[v0] := by simp [Builtin.len_, hat0]
          simp [execOp, resolve, invoke, builtin, e2, e3, g1]
        · simpa [effBuiltin] using g2
      · obtain ⟨v0, v1, e2, r0, r1⟩ := two x y rfl
        have e1 : ats = #[t, t] := by apply Array.ext'; simpa using hat
        subst e1
        obtain ⟨v, w', m', β', g1, g2⟩ := append_ok H hbn hk r0 r1 hl ty
        refine ⟨v, w', m', β', .inl ?_, ?_⟩
        · simp [execOp, resolve, invoke, builtin, e2, g1]
        · simpa [effBuiltin] using g2
      · obtain ⟨v0, v1, e2, r0, r1⟩ := two x y rfl
        have q0 := r0.i64 h1
        have q1 := r1.i64 h2
        subst q0; subst q1
        rcases hb with rfl | rfl
        · refine ⟨.int .i64 (if intOf' y < intOf' x then intOf' y else intOf' x), w, m, β, .inl ?_, .rfl' m, .rfl' β, fun _ _ h => h, H, .d (.v rfl)⟩
          simp [execOp, resolve, invoke, builtin, e2, run_min_int2]
        · refine ⟨.int .i64 (if intOf' y > intOf' x then intOf' y else intOf' x), w, m, β, .inl ?_, .rfl' m, .rfl' β, fun _ _ h => h, H, .d (.v rfl)⟩
          simp [execOp, resolve, invoke, builtin, e2, run_max_int2]
    | _ => exact hok.elim
  | _ => exact hok.elim
end
end Go.Proofs.Ytmeekpinkfpnhab

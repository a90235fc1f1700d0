/- Regions that draw their order: the text's order is enough, where operations that have no order meet no object of each other. Regions that draw their order (2): any order does what the text's order does. Regions that draw their order (3): the rule. Facts on types and functions of the program, written by a program of ours. Plain data of the proofs: terms, and what the functions of package term compute of them. No program in sight. Terms, signatures, clauses as pure values. -/
import Derived.Test.YtmeekpinkfpnhaaB02
import Derived.Test.YtmeekpinkfpnhaaProg
set_option linter.unusedSimpArgs false
set_option linter.unusedSectionVars false
set_option linter.unusedVariables false
set_option linter.unnecessarySimpa false
set_option linter.all false
namespace Go.Proofs.Ytmeekpinkfpnhaa
open Go.RowKit

theorem objCells_congr {h h' : Heap} {n : Nm} (e : h' n = h n) : objCells h' n = objCells h n ∧ objTy h' n = objTy h n ∧ (isCells h n → isCells h' n) := by
  unfold objCells objTy isCells; rw [e]; exact ⟨rfl, rfl, id⟩

section
variable {P : Program}

theorem append_h {nm : Nm} {t t' : TypeId} {s x : AV} {h h' : Heap} (hh : ∀ y ∈ (effAppend P nm t s x h).rd, h' y.1 = h y.1) : effAppend P nm t s x h' = effAppend P nm t s x h ∧ (okAppend P t t' s x h → okAppend P t t' s x h') := by
  have hm : ∀ m off len, x = .arr m off len → h' m = h m := fun m off len e => by
    subst e
    refine hh (m, h m) ?_
    unfold effAppend
    split <;> simp [srcRd]
  have hx : newsOf h' x = newsOf h x ∧ (∀ sz, okSrc sz h x → okSrc sz h' x) := by
    cases x with
    | arr m off len =>
      obtain ⟨e1, _, e3⟩ := objCells_congr (hm m off len rfl)
      exact ⟨by simp only [newsOf, e1], fun sz ⟨k1, k2, k3⟩ => ⟨e3 k1, k2, by rw [e1]; exact k3⟩⟩
    | _ => exact ⟨rfl, fun _ h => h⟩
  have hs : ∀ n, okDest P (elT P t) h n s → okDest P (elT P t) h' n s := by
    intro n hd
    cases s with
    | own nm' xs =>
      have e : h' nm' = h nm' := hh (nm', some (.perm (elT P t) xs.length)) (by simp [effAppend])
      exact ⟨by rw [e]; exact hd.1, hd.2⟩
    | _ => exact hd
  refine ⟨?_, fun hok => ?_⟩
  · have hr : srcRd h' x = srcRd h x := by
      cases x with
      | arr m off len => simp only [srcRd, hm m off len rfl]
      | _ => rfl
    unfold effAppend
    rw [hx.1, hr]
  · obtain ⟨k1, k2, k3, k4, k5, k6, k7⟩ := hok
    exact ⟨k1, k2, k3, k4, k5, hx.2 _ k6, by rw [hx.1]; exact hs _ k7⟩
theorem builtin_h {nm : Nm} {b : Builtin} {tl : List TypeId} {az : List AV} {h h' : Heap} (hh : ∀ y ∈ (effBuiltin P nm h b tl az).rd, h' y.1 = h y.1) : effBuiltin P nm h' b tl az = effBuiltin P nm h b tl az ∧ (okBuiltin P h b tl az → okBuiltin P h' b tl az) := by
  by_cases hb : b = .append ∧ ∃ s x t ts, az = [s, x] ∧ tl = t :: ts
  · obtain ⟨rfl, s, x, t, ts, rfl, rfl⟩ := hb
    have := append_h (P := P) (t' := ts.headD 0) (h' := h') hh
    refine ⟨this.1, fun hok => ?_⟩
    match ts, hok with
    | [t'], hok => exact this.2 hok
  · have e1 : effBuiltin P nm h' b tl az = effBuiltin P nm h b tl az := by
      unfold effBuiltin
      split <;> first | rfl | (exfalso; exact hb ⟨rfl, _, _, _, _, rfl, rfl⟩)
    refine ⟨e1, ?_⟩
    unfold okBuiltin
    split <;> first | exact id | (exfalso; exact hb ⟨rfl, _, _, _, _, rfl, rfl⟩)
theorem effOf_h {nm : Nm} {op : Op} {r : Operand → AV} {h h' : Heap} (hh : ∀ x ∈ (effOf P nm op r h).rd, h' x.1 = h x.1) : effOf P nm op r h' = effOf P nm op r h ∧ (okOf P op r h → okOf P op r h') := by
  cases op with
  | load t a =>
    simp only [effOf, okOf] at hh ⊢
    generalize r a = A at *
    cases A with
    | ptr n off =>
      have e : h' n = h n := hh (n, h n) (by simp [effLoad])
      obtain ⟨e1, e2, e3⟩ := objCells_congr e
      exact ⟨by simp only [effLoad, e1, e], fun ⟨k1, k2, k3⟩ => ⟨k1, e3 k2, by rw [e1]; exact k3⟩⟩
    | _ => exact ⟨rfl, id⟩
  | store t a x =>
    simp only [effOf, okOf] at hh ⊢
    generalize r a = A at *
    cases A with
    | ptr n off =>
      have e : h' n = h n := hh (n, h n) (by simp [effStore])
      obtain ⟨e1, e2, e3⟩ := objCells_congr e
      exact ⟨by simp only [effStore, e1, e2, e], fun ⟨k1, k2, k3, k4⟩ => ⟨k1, k2, e3 k3, by rw [e1]; exact k4⟩⟩
    | _ => exact ⟨rfl, id⟩
  | lookup t a k c =>
    simp only [effOf, okOf] at hh ⊢
    generalize r a = A at *
    cases A with
    | map n =>
      have e : h' n = h n := hh (n, h n) (by simp [effLook])
      exact ⟨by simp only [effLook, askM, mapEs, e], fun ⟨k1, k2, k3, k4, k5⟩ => ⟨k1, k2, k3, k4, by simpa only [isMapO, e] using k5⟩⟩
    | _ => exact ⟨rfl, id⟩
  | mapUpdate t a k x =>
    simp only [effOf, okOf] at hh ⊢
    generalize r a = A at *
    cases A with
    | map n =>
      have e : h' n = h n := hh (n, h n) (by simp [effPut])
      exact ⟨by simp only [effPut, mapEs, e], fun ⟨k1, k2, k3, k4⟩ => ⟨k1, k2, k3, by simpa only [isMapO, e] using k4⟩⟩
    | _ => exact ⟨rfl, id⟩
  | insert t a k x =>
    simp only [effOf, okOf] at hh ⊢
    generalize r a = A at *
    cases A with
    | map n =>
      have e : h' n = h n := hh (n, h n) (by simp [effPut])
      exact ⟨by simp only [effPut, mapEs, e], fun ⟨k1, k2, k3, k4⟩ => ⟨k1, k2, k3, by simpa only [isMapO, e] using k4⟩⟩
    | _ => exact ⟨rfl, id⟩
  | makeMap t q => cases q <;> exact ⟨rfl, id⟩
  | call c =>
    obtain ⟨callee, args, ats⟩ := c
    cases callee with
    | builtin b =>
      simp only [effOf, okOf] at hh ⊢
      generalize args.toList.map r = az at *
      generalize ats.toList = tl at *
      exact builtin_h hh
    | _ => exact ⟨rfl, id⟩
  | _ => exact ⟨rfl, id⟩

theorem map_congr_mem {ps : Array (Nat × Operand)} {r r' : Operand → AV} (h : ∀ x ∈ ps, r' x.2 = r x.2) : ps.toList.map (fun x => (x.1, r' x.2)) = ps.toList.map (fun x => (x.1, r x.2)) :=
  List.map_congr_left fun x hx => by rw [h x (by simpa using hx)]
theorem effOf_r {nm : Nm} {op : Op} {r r' : Operand → AV} {h : Heap} (hr : ∀ x ∈ op.operands, r' x = r x) : effOf P nm op r' h = effOf P nm op r h ∧ (okOf P op r h → okOf P op r' h) := by
  cases op with
  | build t ps =>
    have := map_congr_mem (r := r) (r' := r') (ps := ps) fun x hx => hr x.2 (by simp [Op.operands]; exact ⟨x.1, by simpa using hx⟩)
    simp only [effOf, okOf, this]; exact ⟨trivial, id⟩
  | buildSlice t n ps =>
    have := map_congr_mem (r := r) (r' := r') (ps := ps) fun x hx => hr x.2 (by simp [Op.operands]; exact ⟨x.1, by simpa using hx⟩)
    simp only [effOf, okOf, this]; exact ⟨trivial, id⟩
  | slice t x lo hi mx =>
    have key : ∀ l : Option Operand, (∀ x, l = some x → r' x = r x) → l.map r' = l.map r := fun l hl => by
      cases l with
      | none => rfl
      | some x => simp [hl x rfl]
    have e1 := hr x (by simp [Op.operands])
    have e2 := key lo fun x hx => hr x (by subst hx; simp [Op.operands])
    have e3 := key hi fun x hx => hr x (by subst hx; simp [Op.operands])
    have e4 := key mx fun x hx => hr x (by subst hx; simp [Op.operands])
    simp only [effOf, okOf, e1, e2, e3, e4]; exact ⟨trivial, id⟩
  | makeFunc f a b =>
    have e1 : a.toList.map r' = a.toList.map r := List.map_congr_left fun x hx => hr x (by simp [Op.operands] at hx ⊢; exact .inl hx)
    have e2 : b.toList.map r' = b.toList.map r := List.map_congr_left fun x hx => hr x (by simp [Op.operands] at hx ⊢; exact .inr hx)
    simp only [effOf, okOf, e1, e2]; exact ⟨trivial, id⟩
  | call c =>
    obtain ⟨callee, args, ats⟩ := c
    cases callee with
    | builtin b =>
      have e1 : args.toList.map r' = args.toList.map r := List.map_congr_left fun x hx => hr x (by simp [Op.operands, Call.operands] at hx ⊢; exact hx)
      simp only [effOf, okOf, e1]; exact ⟨trivial, id⟩
    | _ => exact ⟨rfl, id⟩
  | move x => have e := hr x (by simp [Op.operands]); simp only [effOf, okOf, e]; exact ⟨trivial, id⟩
  | assign x => have e := hr x (by simp [Op.operands]); simp only [effOf, okOf, e]; exact ⟨trivial, id⟩
  | pick c x y =>
    have e1 := hr c (by simp [Op.operands]); have e2 := hr x (by simp [Op.operands]); have e3 := hr y (by simp [Op.operands])
    simp only [effOf, okOf, e1, e2, e3]; exact ⟨trivial, id⟩
  | box e x => have e := hr x (by simp [Op.operands]); simp only [effOf, okOf, e]; exact ⟨trivial, id⟩
  | load t x => have e := hr x (by simp [Op.operands]); simp only [effOf, okOf, e]; exact ⟨trivial, id⟩
  | store t x y => have e1 := hr x (by simp [Op.operands]); have e2 := hr y (by simp [Op.operands]); simp only [effOf, okOf, e1, e2]; exact ⟨trivial, id⟩
  | nilCheck x => have e := hr x (by simp [Op.operands]); simp only [effOf, okOf, e]; exact ⟨trivial, id⟩
  | binOp b t x y t' => have e1 := hr x (by simp [Op.operands]); have e2 := hr y (by simp [Op.operands]); simp only [effOf, okOf, e1, e2]; exact ⟨trivial, id⟩
  | unOp u t x => have e := hr x (by simp [Op.operands]); simp only [effOf, okOf, e]; exact ⟨trivial, id⟩
  | fieldAddr t x f => have e := hr x (by simp [Op.operands]); simp only [effOf, okOf, e]; exact ⟨trivial, id⟩
  | field t x f => have e := hr x (by simp [Op.operands]); simp only [effOf, okOf, e]; exact ⟨trivial, id⟩
  | indexAddr t x y => have e1 := hr x (by simp [Op.operands]); have e2 := hr y (by simp [Op.operands]); simp only [effOf, okOf, e1, e2]; exact ⟨trivial, id⟩
  | index t x y => have e1 := hr x (by simp [Op.operands]); have e2 := hr y (by simp [Op.operands]); simp only [effOf, okOf, e1, e2]; exact ⟨trivial, id⟩
  | makeSlice t x y => have e1 := hr x (by simp [Op.operands]); have e2 := hr y (by simp [Op.operands]); simp only [effOf, okOf, e1, e2]; exact ⟨trivial, id⟩
  | extract x i => have e := hr x (by simp [Op.operands]); simp only [effOf, okOf, e]; exact ⟨trivial, id⟩
  | lookup t x y c => have e1 := hr x (by simp [Op.operands]); have e2 := hr y (by simp [Op.operands]); simp only [effOf, okOf, e1, e2]; exact ⟨trivial, id⟩
  | mapUpdate t x y z => have e1 := hr x (by simp [Op.operands]); have e2 := hr y (by simp [Op.operands]); have e3 := hr z (by simp [Op.operands]); simp only [effOf, okOf, e1, e2, e3]; exact ⟨trivial, id⟩
  | insert t x y z => have e1 := hr x (by simp [Op.operands]); have e2 := hr y (by simp [Op.operands]); have e3 := hr z (by simp [Op.operands]); simp only [effOf, okOf, e1, e2, e3]; exact ⟨trivial, id⟩
  | makeMap t q => cases q <;> exact ⟨rfl, id⟩
  | _ => exact ⟨rfl, id⟩

/-! ### what an operation meets -/
def Eff.R_ (e : Eff) : List Nm := e.rd.map (·.1)
def Eff.W_ (e : Eff) : List Nm := e.wr.map (·.1)
/-- Neither meets what the other one writes. -/
def Far (r1 w1 r2 w2 : List Nm) : Prop := (∀ x ∈ w1, x ∉ r2 ∧ x ∉ w2) ∧ ∀ x ∈ w2, x ∉ r1
def Eff.far (e f : Eff) : Prop := Far e.R_ e.W_ f.R_ f.W_

theorem fold_far {l : List (Nm × Option Ob)} : ∀ {h : Heap} {n : Nm}, (∀ x ∈ l, x.1 ≠ n) → l.foldl (fun h x => upd h x.1 x.2) h n = h n := by
  induction l with
  | nil => intro h n _; rfl
  | cons x l ih =>
    intro h n hn
    rw [List.foldl_cons, ih fun y hy => hn y (by simp [hy])]
    exact upd_ne _ _ (Ne.symm (hn x (by simp)))
theorem fold_near {l : List (Nm × Option Ob)} : ∀ {h h' : Heap} {n : Nm}, (∃ x ∈ l, x.1 = n) → l.foldl (fun h x => upd h x.1 x.2) h n = l.foldl (fun h x => upd h x.1 x.2) h' n := by
  induction l with
  | nil => rintro h h' n ⟨x, hx, _⟩; cases hx
  | cons x l ih =>
    intro h h' n hn
    rw [List.foldl_cons, List.foldl_cons]
    by_cases hl : ∃ y ∈ l, y.1 = n
    · exact ih hl
    · obtain ⟨y, hy, rfl⟩ := hn
      have hy' : y = x := by
        rcases List.mem_cons.1 hy with h | h
        · exact h
        · exact absurd ⟨y, h, rfl⟩ hl
      subst hy'
      have hne : ∀ z ∈ l, z.1 ≠ y.1 := fun z hz e => hl ⟨z, hz, e⟩
      rw [fold_far hne, fold_far hne, upd_self, upd_self]
theorem ap_far {e : Eff} {h : Heap} {n : Nm} (hn : n ∉ e.W_) : e.ap h n = h n := fold_far fun x hx e' => hn (by subst e'; exact List.mem_map_of_mem hx)
theorem ap_comm {e f : Eff} (hf : ∀ x ∈ e.W_, x ∉ f.W_) (h : Heap) : e.ap (f.ap h) = f.ap (e.ap h) := by
  funext n
  by_cases h1 : n ∈ e.W_
  · rw [ap_far (hf n h1)]
    obtain ⟨x, hx, rfl⟩ := List.mem_map.1 h1
    exact fold_near ⟨x, hx, rfl⟩
  · rw [ap_far h1]
    by_cases h2 : n ∈ f.W_
    · obtain ⟨x, hx, rfl⟩ := List.mem_map.1 h2
      exact fold_near ⟨x, hx, rfl⟩
    · rw [ap_far h2, ap_far h2, ap_far h1]
end
end Go.Proofs.Ytmeekpinkfpnhaa

namespace Go.Proofs.Ytmeekpinkfpnhaa
open Go.RowKit

/-- An operation of a region, guarded or not, and what it does. -/
def OpD (P : Program) (ops : Array Oper) (tick i : Nat) (o : Oper) (s : St) (e : Eff) : Prop :=
  match o.guard with
  | none => ActOK P tick i o s e
  | some (j, b) => guardOk (gval ops s j) ∧ (guardB b (gval ops s j) = true → ActOK P tick i o s e) ∧ (guardB b (gval ops s j) = false → e = nop)

/-- In whatever order. -/
def anyA (P : Program) (ops : Array Oper) (tick : Nat) (es : Nat → Eff) : Nat → Array Bool → St → (St → Prop) → Prop
  | 0, listed, s, K => Region.ready .any ops listed = [] ∧ K s
  | f + 1, listed, s, K => (Region.ready .any ops listed = [] → K s) ∧ ∀ i ∈ Region.ready .any ops listed, ∀ o, ops[i]? = some o → OpD P ops tick i o s (es i) ∧ anyA P ops tick es f (listed.setIfInBounds i true) (s.step o (es i)) K

section
variable {P : Program} {w0 : World} {n : Nat} {ops : Array Oper} {tick : Nat} {es : Nat → Eff}

theorem anyA_sound {Q : Exit → Act → World → Prop} {K : St → Prop} (hd : ∀ o ∈ ops, dstOk n o = true) (hop : ∀ o ∈ ops, opOk n o.op = true) (hsz : ops.size < 1000) : ∀ (fuel : Nat) (listed : Array Bool) (s : St) (m : Mem) (β : Bl) (a : Act) (w : World),
    anyA P ops tick es fuel listed s K → listed.size = ops.size → a.tmps.size = n → tick < s.k → HRel P w0 s.h s.k m β w → TRel m β s.t a.tmps → (∀ j, listed.getD (j % 1000) true = false → β (tick, j) = none) →
    (∀ s' m' β' a' w', K s' → a'.tmps.size = n → a'.defers = a.defers → s'.k = s.k → Goes P w0 m β s' m' β' a' w' → (∀ x, x.1 ≠ tick → β x = none → β' x = none) → Q .normal a' w') → wpAny P .any ops Q fuel listed a w
  | 0, listed, s, m, β, a, w, hr, _, hn, _, H, hT, _, hQ => ⟨hr.1, hQ s m β a w hr.2 hn rfl rfl ⟨.rfl' m, .rfl' β, H, hT⟩ fun _ _ h => h⟩
  | fuel + 1, listed, s, m, β, a, w, hr, hls, hn, hk, H, hT, hfr, hQ => by
    refine ⟨fun h0 => hQ s m β a w (hr.1 h0) hn rfl rfl ⟨.rfl' m, .rfl' β, H, hT⟩ fun _ _ h => h, fun i hi => ?_⟩
    obtain ⟨hun, o, ho, _⟩ := mem_ready.1 hi
    have hlt : i < ops.size := (Array.getElem?_eq_some_iff.1 ho).1
    obtain ⟨hD, hrest⟩ := hr.2 i hi o ho
    have hop1 := hop o (Array.mem_of_getElem? ho)
    have next : ∀ v m' β' w', Goes P w0 m β (s.step o (es i)) m' β' (a.put o.dst v) w' → (∀ x, ¬ (x.1 = tick ∧ x.2 % 1000 = i) → β x = none → β' x = none) → wpAny P .any ops Q fuel (listed.setIfInBounds i true) (a.put o.dst v) w' := by
      intro v m' β' w' hg hb
      refine anyA_sound hd hop hsz fuel _ (s.step o (es i)) m' β' (a.put o.dst v) w' hrest (by simpa using hls) (by rw [put_size, hn]) hk hg.heap hg.slots (fun j hj => ?_) ?_
      · have hne : j % 1000 ≠ i := fun e => by
          subst e
          have hl : j % 1000 < listed.size := by omega
          rw [Array.getD_eq_getD_getElem?, Array.getElem?_setIfInBounds_self_of_lt hl] at hj
          cases hj
        rw [getD_set_ne true (Ne.symm hne)] at hj
        exact hb (tick, j) (fun h => hne h.2) (hfr j hj)
      · intro s' m'' β'' a' w'' h1 h2 h3 h4 h5 h6
        refine hQ s' m'' β'' a' w'' h1 h2 (h3.trans (put_defers _ _ _)) h4 ⟨hg.mem.trans h5.mem, hg.bl.trans h5.bl, h5.heap, h5.slots⟩ fun x hx h0 => h6 x hx (hb x (fun h => hx h.1) h0)
    have act : ActOK P tick i o s (es i) → o.wp P a w (wpAny P .any ops Q fuel (listed.setIfInBounds i true)) Q := fun h1 =>
      act_sound h1 hop1 hn hk (by omega) H hT (fun j hj => hfr j (by rw [hj]; exact hun)) fun v m' β' w' hg hb => next v m' β' w' hg hb
    unfold wpOp
    simp only [ho]
    unfold OpD at hD
    split at hD
    · rename_i hg
      rw [if_pos (by simp [Region.wanted, hg])]
      exact .inl (act hD)
    · rename_i j b hg
      obtain ⟨h1, h2, h3⟩ := hD
      have hy := gval_sound (b := b) hT hn hd h1
      by_cases hb : guardB b (gval ops s j) = true
      · rw [if_pos (by simp [Region.wanted, hg, hb] at hy ⊢; exact hy)]
        exact .inl (act (h2 hb))
      · have hb' : guardB b (gval ops s j) = false := by simpa using hb
        rw [if_neg (by simp [Region.wanted, hg, hb'] at hy ⊢; exact hy)]
        have he := h3 hb'
        exact next undef m β w ⟨.rfl' m, .rfl' β, by rw [he]; exact H, step_slots hT (.rfl' m) (.rfl' β) (by rw [he]; exact .un)⟩ fun _ _ h => h

theorem set_comm (t : Nat → AV) {i j : Nat} (hij : i ≠ j) (a b : AV) : set (set t i a) j b = set (set t j b) i a := by
  funext q
  unfold set
  by_cases h1 : q = i
  · by_cases h2 : q = j
    · exact absurd (h1.symm.trans h2) hij
    · simp [h1, hij]
  · by_cases h2 : q = j <;> simp [h1, h2]
    intro h3; exact absurd (h2 ▸ h3) (fun e => h1 (h2.trans e))

theorem step_comm {oi oj : Oper} {ei ej : Eff} {s : St} (hap : oi.apart ops oj = true) (hf : ei.far ej) : (s.step oi ei).step oj ej = (s.step oj ej).step oi ei := by
  obtain ⟨h1, h2, h3⟩ := Oper.apart_spec hap
  have hh : ej.ap (ei.ap s.h) = ei.ap (ej.ap s.h) := ap_comm (fun x hx hx' => (hf.1 x hx').2 hx) s.h
  unfold St.step
  simp only [hh]
  cases hi : oi.dst with
  | none => rfl
  | some d =>
    cases hj : oj.dst with
    | none => rfl
    | some d' =>
      simp only
      rw [set_comm s.t (fun e => h2 d hi (by rw [hj, e])) ei.val ej.val]

theorem ev_step {oi : Oper} {ei : Eff} {s : St} {x : Operand} (h : ∀ d, oi.dst = some d → x ≠ .tmp d) : (s.step oi ei).ev x = s.ev x := by
  cases x with
  | tmp t =>
    unfold St.ev St.step
    cases hi : oi.dst with
    | none => rfl
    | some d =>
      have : t ≠ d := fun e => h d hi (by rw [e])
      simp [set, this]
  | _ => rfl

theorem act_step {i j : Nat} {oi oj : Oper} {ei ej : Eff} {s : St} (hd : ∀ d, oi.dst = some d → d ∉ oj.looksAt ops) (hw : ∀ x ∈ ei.W_, x ∉ ej.R_ ∧ x ∉ ej.W_) (back : Bool) :
    (if back then ActOK P tick j oj (s.step oi ei) ej → ActOK P tick j oj s ej else ActOK P tick j oj s ej → ActOK P tick j oj (s.step oi ei) ej) := by
  have hev : ∀ x ∈ oj.op.operands, (s.step oi ei).ev x = s.ev x := fun x hx => ev_step fun d hdd hxd => hd d hdd (by
    subst hxd
    exact List.mem_append_left _ (List.mem_filterMap.2 ⟨.tmp d, by simpa using hx, rfl⟩))
  have hh : ∀ x, x ∈ ej.R_ ∨ x ∈ ej.W_ → (s.step oi ei).h x = s.h x := fun x hx => ap_far fun hx' => by
    rcases hx with h | h
    · exact (hw x hx').1 h
    · exact (hw x hx').2 h
  have callEq : ∀ f args ats, oj.op = .call ⟨.value f, args, ats⟩ → (CallOK P tick j f args (s.step oi ei) ej ↔ CallOK P tick j f args s ej) := by
    intro f args ats ho
    have e1 : (s.step oi ei).ev f = s.ev f := hev f (by rw [ho]; simp [Op.operands, Call.operands])
    have e2 : args.toList.map (s.step oi ei).ev = args.toList.map s.ev := List.map_congr_left fun x hx => hev x (by rw [ho]; simp [Op.operands, Call.operands] at hx ⊢; exact .inr hx)
    unfold CallOK
    rw [e1, e2]
    have e3 : (∀ x ∈ ej.rd, (s.step oi ei).h x.1 = x.2) ↔ (∀ x ∈ ej.rd, s.h x.1 = x.2) :=
      ⟨fun h x hx => (hh x.1 (.inl (List.mem_map_of_mem hx))).symm.trans (h x hx), fun h x hx => (hh x.1 (.inl (List.mem_map_of_mem hx))).trans (h x hx)⟩
    have e4 : (∀ x ∈ ej.wr, (s.step oi ei).h x.1 ≠ none ∨ x.1.1 = tick ∧ x.1.2 % 1000 = j) ↔ (∀ x ∈ ej.wr, s.h x.1 ≠ none ∨ x.1.1 = tick ∧ x.1.2 % 1000 = j) :=
      ⟨fun h x hx => by have := h x hx; rwa [hh x.1 (.inr (List.mem_map_of_mem hx))] at this, fun h x hx => by rw [hh x.1 (.inr (List.mem_map_of_mem hx))]; exact h x hx⟩
    rw [e3, e4]
  cases back
  · simp only [Bool.false_eq_true, if_false]
    unfold ActOK
    split
    · rename_i f args ats ho; exact (callEq f args ats ho).2
    · rintro ⟨h1, h2⟩
      obtain ⟨k1, k2⟩ := effOf_r (P := P) (nm := (tick, j)) (h := s.h) hev
      obtain ⟨k3, k4⟩ := effOf_h (P := P) (nm := (tick, j)) (op := oj.op) (r := (s.step oi ei).ev) (h := s.h) (h' := (s.step oi ei).h) (fun x hx => by
        rw [k1, ← h2] at hx
        exact hh x.1 (.inl (List.mem_map_of_mem hx)))
      exact ⟨k4 (k2 h1), by rw [k3, k1]; exact h2⟩
  · simp only [if_true]
    unfold ActOK
    split
    · rename_i f args ats ho; exact (callEq f args ats ho).1
    · rintro ⟨h1, h2⟩
      obtain ⟨k1, k2⟩ := effOf_r (P := P) (nm := (tick, j)) (op := oj.op) (r := (s.step oi ei).ev) (r' := s.ev) (h := (s.step oi ei).h) (fun x hx => (hev x hx).symm)
      obtain ⟨k3, k4⟩ := effOf_h (P := P) (nm := (tick, j)) (op := oj.op) (r := s.ev) (h := (s.step oi ei).h) (h' := s.h) (fun x hx => by
        rw [k1, ← h2] at hx
        exact (hh x.1 (.inl (List.mem_map_of_mem hx))).symm)
      exact ⟨k4 (k2 h1), by rw [k3, k1]; exact h2⟩

theorem opD_step {i j : Nat} {oi oj : Oper} {ei ej : Eff} {s : St} (hd : ∀ d, oi.dst = some d → d ∉ oj.looksAt ops) (hw : ∀ x ∈ ei.W_, x ∉ ej.R_ ∧ x ∉ ej.W_) :
    (OpD P ops tick j oj (s.step oi ei) ej → OpD P ops tick j oj s ej) ∧ (OpD P ops tick j oj s ej → OpD P ops tick j oj (s.step oi ei) ej) := by
  have a1 := act_step (P := P) (tick := tick) (i := i) (j := j) (s := s) hd hw true
  have a2 := act_step (P := P) (tick := tick) (i := i) (j := j) (s := s) hd hw false
  simp only [if_true, Bool.false_eq_true, if_false] at a1 a2
  have hg : ∀ g b, oj.guard = some (g, b) → gval ops (s.step oi ei) g = gval ops s g := by
    intro g b ho
    unfold gval gslot
    cases ht : (ops[g]?).bind (·.dst) with
    | none => rfl
    | some t =>
      have := ev_step (oi := oi) (ei := ei) (s := s) (x := .tmp t) (fun d hdd e => hd d hdd (by cases e; simp [Oper.looksAt, ho, ht]))
      exact this
  unfold OpD
  split
  · exact ⟨a1, a2⟩
  · rename_i g b ho
    rw [hg g b ho]
    exact ⟨fun ⟨h1, h2, h3⟩ => ⟨h1, fun h => a1 (h2 h), h3⟩, fun ⟨h1, h2, h3⟩ => ⟨h1, fun h => a2 (h2 h), h3⟩⟩

/-- What is listed has what it waits for listed. -/
def Closd (ops : Array Oper) (listed : Array Bool) : Prop := ∀ j oj, ops[j]? = some oj → listed.getD j false = true → ∀ e ∈ oj.after, Region.binds .any e = true → listed.getD e.on false = true
theorem getD_set_up {l : Array Bool} {i j : Nat} (h : l.getD j false = true) : (l.setIfInBounds i true).getD j false = true := by
  by_cases hij : i = j
  · subst hij
    rcases Nat.lt_or_ge i l.size with h' | h'
    · rw [Array.getD_eq_getD_getElem?, Array.getElem?_setIfInBounds_self_of_lt h']; rfl
    · rw [Array.getD_eq_getD_getElem?, Array.getElem?_eq_none h'] at h; cases h
  · rw [getD_set_ne false hij]; exact h
theorem Closd.set {listed : Array Bool} (h : Closd ops listed) {i : Nat} (hr : i ∈ Region.ready .any ops listed) : Closd ops (listed.setIfInBounds i true) := by
  intro j oj hoj hl e he hb
  obtain ⟨_, oi, hoi, hall⟩ := mem_ready.1 hr
  by_cases hij : i = j
  · subst hij
    rw [hoi] at hoj; cases hoj
    exact getD_set_up (hall e he hb)
  · rw [getD_set_ne false hij] at hl
    exact getD_set_up (h j oj hoj hl e he hb)
theorem anyA_first {K : St → Prop} {i : Nat} {oi : Oper} (hi : ops[i]? = some oi) : ∀ (fuel : Nat) (listed : Array Bool) (s : St),
    (∀ j oj, ops[j]? = some oj → j ≠ i → listed.getD j true = false → (∀ e ∈ oj.after, Region.binds .any e = true → e.on ≠ i) → (∀ e ∈ oj.after, Region.binds .any e = true → ∀ oc, ops[e.on]? = some oc → ∀ e' ∈ oc.after, Region.binds .any e' = true → e'.on ≠ i) → oi.apart ops oj = true ∧ (es i).far (es j)) →
    Closd ops listed → i ∈ Region.ready .any ops listed → OpD P ops tick i oi s (es i) → anyA P ops tick es fuel (listed.setIfInBounds i true) (s.step oi (es i)) K → anyA P ops tick es (fuel + 1) listed s K := by
  intro fuel
  induction fuel with
  | zero =>
    intro listed s _ _ hr hD H
    refine ⟨fun h => (by rw [h] at hr; cases hr), fun j hj oj hoj => ?_⟩
    by_cases hji : j = i
    · subst hji
      rw [hi] at hoj; cases hoj
      exact ⟨hD, H⟩
    · have := ready_mono hj hji
      rw [H.1] at this
      cases this
  | succ fuel ih =>
    intro listed s hfree hcl hr hD H
    refine ⟨fun h => (by rw [h] at hr; cases hr), fun j hj oj hoj => ?_⟩
    by_cases hji : j = i
    · subst hji
      rw [hi] at hoj; cases hoj
      exact ⟨hD, H⟩
    · obtain ⟨h1, h2⟩ := H.2 j (ready_mono hj hji) oj hoj
      obtain ⟨hjun, oj', hoj', hall⟩ := mem_ready.1 hj
      rw [hoj] at hoj'; cases hoj'
      have hnot : ∀ e ∈ oj.after, Region.binds .any e = true → e.on ≠ i := fun e he hb heq => by
        have h1 := hall e he hb
        have h0 := (mem_ready.1 hr).1
        rw [heq] at h1
        rcases Nat.lt_or_ge i listed.size with h' | h'
        · simp [h'] at h0 h1; rw [h0] at h1; cases h1
        · simp [Array.getElem?_eq_none h'] at h1
      have hnot2 : (∀ e ∈ oj.after, Region.binds .any e = true → ∀ oc, ops[e.on]? = some oc → ∀ e' ∈ oc.after, Region.binds .any e' = true → e'.on ≠ i) := fun e he hb oc hoc e' he' hb' heq => by
        have h1 := hcl e.on oc hoc (hall e he hb) e' he' hb'
        have h0 := (mem_ready.1 hr).1
        rw [heq] at h1
        rcases Nat.lt_or_ge i listed.size with h' | h'
        · simp [h'] at h0 h1; rw [h0] at h1; cases h1
        · simp [Array.getElem?_eq_none h'] at h1
      obtain ⟨hap, hfar⟩ := hfree j oj hoj hji hjun hnot hnot2
      obtain ⟨p1, p2, p3⟩ := Oper.apart_spec hap
      have hDj := (opD_step (P := P) (tick := tick) (i := i) (j := j) (s := s) p1 hfar.1).1 h1
      have hDi := (opD_step (P := P) (ops := ops) (tick := tick) (i := j) (j := i) (oi := oj) (oj := oi) (ei := es j) (ej := es i) (s := s) p3 (fun x hx => ⟨hfar.2 x hx, fun hx' => (hfar.1 x hx').2 hx⟩)).2 hD
      have hfree' : ∀ k ok, ops[k]? = some ok → k ≠ i → (listed.setIfInBounds j true).getD k true = false → (∀ e ∈ ok.after, Region.binds .any e = true → e.on ≠ i) → (∀ e ∈ ok.after, Region.binds .any e = true → ∀ oc, ops[e.on]? = some oc → ∀ e' ∈ oc.after, Region.binds .any e' = true → e'.on ≠ i) → oi.apart ops ok = true ∧ (es i).far (es k) := fun k ok hk hki hun hno hno2 => by
        refine hfree k ok hk hki ?_ hno hno2
        by_cases hjk : j = k
        · subst hjk; exact hjun
        · rw [getD_set_ne true hjk] at hun; exact hun
      refine ⟨hDj, ih (listed.setIfInBounds j true) (s.step oj (es j)) hfree' (hcl.set hj) (ready_mono hr (Ne.symm hji)) hDi ?_⟩
      rw [Array.setIfInBounds_comm _ _ hji, ← step_comm hap hfar]
      exact h2
end
end Go.Proofs.Ytmeekpinkfpnhaa

namespace Go.Proofs.Ytmeekpinkfpnhaa
open Go.RowKit
set_option linter.unusedSimpArgs false
set_option linter.unusedSectionVars false

/-- Must o wait for operation i? -/
def edgeB (o : Oper) (i : Nat) : Bool := o.after.toList.any fun e => Region.binds .any e && e.on == i
/-- Or for something that waits for it? -/
def edge2 (ops : Array Oper) (o : Oper) (i : Nat) : Bool := o.after.toList.any fun e => Region.binds .any e && ((ops[e.on]?).map (edgeB · i)).getD false
abbrev Acc := List (Nat × List Nm × List Nm)
/-- What came before and has no order with o meets nothing of it. -/
def chk (ops : Array Oper) (o : Oper) : Acc → List Nm → List Nm → Prop
  | [], _, _ => True
  | x :: acc, r, w => (if edgeB o x.1 then True else if edge2 ops o x.1 then True else Far x.2.1 x.2.2 r w) ∧ chk ops o acc r w
def addF (acc : Acc) (i : Nat) : List Nm → List Nm → Acc
  | [], [] => acc
  | r, w => (i, r, w) :: acc

def runE (P : Program) (ops : Array Oper) (tick : Nat) : List Oper → Nat → St → Acc → (St → Prop) → Prop
  | [], _, s, _, K => K s
  | o :: rest, i, s, acc, K =>
    match o.guard with
    | none => ∃ e, ActOK P tick i o s e ∧ chk ops o acc e.R_ e.W_ ∧ runE P ops tick rest (i + 1) (s.step o e) (addF acc i e.R_ e.W_) K
    | some (j, b) => guardOk (gval ops s j) ∧ (guardB b (gval ops s j) = true → ∃ e, ActOK P tick i o s e ∧ chk ops o acc e.R_ e.W_ ∧ runE P ops tick rest (i + 1) (s.step o e) (addF acc i e.R_ e.W_) K) ∧
        (guardB b (gval ops s j) = false → runE P ops tick rest (i + 1) (s.step o nop) acc K)
def CallD (P : Program) (ops : Array Oper) (tick i : Nat) (o : Oper) (rest : List Oper) (s : St) (acc : Acc) (K : St → Prop) : Prop :=
  ∃ e, ActOK P tick i o s e ∧ chk ops o acc e.R_ e.W_ ∧ runE P ops tick rest (i + 1) (s.step o e) (addF acc i e.R_ e.W_) K
def runD (P : Program) (ops : Array Oper) (tick : Nat) : List Oper → Nat → St → Acc → (St → Prop) → Prop
  | [], _, s, _, K => K s
  | o :: rest, i, s, acc, K =>
    match o.guard with
    | none => if isCallV o.op then CallD P ops tick i o rest s acc K
        else okOf P o.op s.ev s.h ∧ chk ops o acc (effOf P (tick, i) o.op s.ev s.h).R_ (effOf P (tick, i) o.op s.ev s.h).W_ ∧
          runD P ops tick rest (i + 1) (s.step o (effOf P (tick, i) o.op s.ev s.h)) (addF acc i (effOf P (tick, i) o.op s.ev s.h).R_ (effOf P (tick, i) o.op s.ev s.h).W_) K
    | some (j, b) => guardOk (gval ops s j) ∧
        if guardB b (gval ops s j) = true then (if isCallV o.op then CallD P ops tick i o rest s acc K
          else okOf P o.op s.ev s.h ∧ chk ops o acc (effOf P (tick, i) o.op s.ev s.h).R_ (effOf P (tick, i) o.op s.ev s.h).W_ ∧
            runD P ops tick rest (i + 1) (s.step o (effOf P (tick, i) o.op s.ev s.h)) (addF acc i (effOf P (tick, i) o.op s.ev s.h).R_ (effOf P (tick, i) o.op s.ev s.h).W_) K)
        else runD P ops tick rest (i + 1) (s.step o nop) acc K

/-- The text's order with effects that are told. -/
def TextOK (P : Program) (ops : Array Oper) (tick : Nat) (es : Nat → Eff) : List Oper → Nat → St → (St → Prop) → Prop
  | [], _, s, K => K s
  | o :: rest, i, s, K => OpD P ops tick i o s (es i) ∧ TextOK P ops tick es rest (i + 1) (s.step o (es i)) K

section
variable {P : Program} {w0 : World} {n : Nat} {ops : Array Oper} {tick : Nat} {K : St → Prop}

theorem runE_of : ∀ (l : List Oper) (i : Nat) (s : St) (acc : Acc), runD P ops tick l i s acc K → runE P ops tick l i s acc K
  | [], _, _, _, h => h
  | o :: rest, i, s, acc, h => by
    have act : (if isCallV o.op then CallD P ops tick i o rest s acc K else okOf P o.op s.ev s.h ∧ chk ops o acc (effOf P (tick, i) o.op s.ev s.h).R_ (effOf P (tick, i) o.op s.ev s.h).W_ ∧
          runD P ops tick rest (i + 1) (s.step o (effOf P (tick, i) o.op s.ev s.h)) (addF acc i (effOf P (tick, i) o.op s.ev s.h).R_ (effOf P (tick, i) o.op s.ev s.h).W_) K) →
        ∃ e, ActOK P tick i o s e ∧ chk ops o acc e.R_ e.W_ ∧ runE P ops tick rest (i + 1) (s.step o e) (addF acc i e.R_ e.W_) K := by
      intro hh
      by_cases hc : isCallV o.op = true
      · rw [if_pos hc] at hh; exact hh
      · rw [if_neg hc] at hh
        refine ⟨_, ?_, hh.2.1, runE_of rest _ _ _ hh.2.2⟩
        unfold ActOK
        split
        · rename_i heq; rw [heq] at hc; simp [isCallV] at hc
        · exact ⟨hh.1, rfl⟩
    unfold runE
    rw [runD] at h
    split at h
    · exact act h
    · rename_i j b _
      refine ⟨h.1, fun hb => act (by have h2 := h.2; rw [if_pos hb] at h2; exact h2), fun hb => runE_of rest _ _ _ (by have h2 := h.2; rw [if_neg (by rw [hb]; decide)] at h2; exact h2)⟩

theorem TextOK.congr {es es' : Nat → Eff} : ∀ (l : List Oper) (i : Nat) (s : St), (∀ q, i ≤ q → es' q = es q) → TextOK P ops tick es l i s K → TextOK P ops tick es' l i s K
  | [], _, _, _, h => h
  | o :: rest, i, s, hq, h => by
    have e := hq i (Nat.le_refl _)
    refine ⟨by rw [e]; exact h.1, ?_⟩
    rw [e]
    exact TextOK.congr rest (i + 1) _ (fun q hq' => hq q (by omega)) h.2

theorem chk_all {o : Oper} : ∀ {acc : Acc} {r w : List Nm}, chk ops o acc r w → ∀ x ∈ acc, edgeB o x.1 = true ∨ edge2 ops o x.1 = true ∨ Far x.2.1 x.2.2 r w
  | [], _, _, _, x, hx => by cases hx
  | y :: acc, r, w, h, x, hx => by
    rcases List.mem_cons.1 hx with rfl | hx
    · have := h.1
      split at this
      · exact .inl ‹_›
      · split at this
        · exact .inr (.inl ‹_›)
        · exact .inr (.inr this)
    · exact chk_all h.2 x hx
theorem addF_mem {acc : Acc} {i : Nat} {r w : List Nm} : (∀ x ∈ acc, x ∈ addF acc i r w) ∧ ((r = [] ∧ w = []) ∨ (i, r, w) ∈ addF acc i r w) := by
  unfold addF
  split
  · exact ⟨fun x hx => hx, .inl ⟨rfl, rfl⟩⟩
  · exact ⟨fun x hx => by simp [hx], .inr (by simp)⟩

theorem runE_es : ∀ (l : List Oper) (i : Nat) (s : St) (acc : Acc), runE P ops tick l i s acc K →
    ∃ es : Nat → Eff, TextOK P ops tick es l i s K ∧ (∀ (a b : Nat) (o : Oper), a < b → l[b]? = some o → edgeB o (i + a) = true ∨ edge2 ops o (i + a) = true ∨ (es (i + a)).far (es (i + b))) ∧
      ∀ x ∈ acc, ∀ (b : Nat) (o : Oper), l[b]? = some o → edgeB o x.1 = true ∨ edge2 ops o x.1 = true ∨ Far x.2.1 x.2.2 (es (i + b)).R_ (es (i + b)).W_
  | [], i, s, acc, h => ⟨fun _ => nop, h, fun a b o _ hb => by simp at hb, fun x _ b o hb => by simp at hb⟩
  | o :: rest, i, s, acc, h => by
    have mk : ∀ (e : Eff) (acc' : Acc), OpD P ops tick i o s e → (∀ x ∈ acc, edgeB o x.1 = true ∨ edge2 ops o x.1 = true ∨ Far x.2.1 x.2.2 e.R_ e.W_) → runE P ops tick rest (i + 1) (s.step o e) acc' K → (∀ x ∈ acc, x ∈ acc') → ((e.R_ = [] ∧ e.W_ = []) ∨ (i, e.R_, e.W_) ∈ acc') →
        ∃ es : Nat → Eff, TextOK P ops tick es (o :: rest) i s K ∧ (∀ (a b : Nat) (o' : Oper), a < b → (o :: rest)[b]? = some o' → edgeB o' (i + a) = true ∨ edge2 ops o' (i + a) = true ∨ (es (i + a)).far (es (i + b))) ∧
          ∀ x ∈ acc, ∀ (b : Nat) (o' : Oper), (o :: rest)[b]? = some o' → edgeB o' x.1 = true ∨ edge2 ops o' x.1 = true ∨ Far x.2.1 x.2.2 (es (i + b)).R_ (es (i + b)).W_ := by
      intro e acc' hD hc hr ha1 ha2
      obtain ⟨es, h1, h2, h3⟩ := runE_es rest (i + 1) (s.step o e) acc' hr
      refine ⟨fun q => if q = i then e else es q, ⟨by simpa using hD, ?_⟩, fun a b o' hab hb => ?_, fun x hx b o' hb => ?_⟩
      · simp only [if_true]
        exact TextOK.congr rest (i + 1) _ (fun q hq => by rw [if_neg (by omega)]) h1
      · cases b with
        | zero => omega
        | succ b =>
          simp only [List.getElem?_cons_succ] at hb
          show edgeB o' (i + a) = true ∨ edge2 ops o' (i + a) = true ∨ (if i + a = i then e else es (i + a)).far (if i + (b + 1) = i then e else es (i + (b + 1)))
          rw [if_neg (show ¬ i + (b + 1) = i by omega)]
          cases a with
          | zero =>
            simp only [Nat.add_zero, if_true]
            rcases ha2 with ⟨e1, e2⟩ | hm
            · right; right
              unfold Eff.far
              rw [e1, e2]
              exact ⟨fun x hx => (by cases hx), fun x _ hx => (by cases hx)⟩
            · have := h3 _ hm b o' hb
              rw [show i + (b + 1) = i + 1 + b by omega]
              exact this
          | succ a =>
            rw [if_neg (show ¬ i + (a + 1) = i by omega)]
            have := h2 a b o' (by omega) hb
            rw [show i + (a + 1) = i + 1 + a by omega, show i + (b + 1) = i + 1 + b by omega]
            exact this
      · cases b with
        | zero =>
          simp only [List.getElem?_cons_zero, Option.some.injEq] at hb
          subst hb
          simp only [Nat.add_zero, if_true]
          exact hc x hx
        | succ b =>
          simp only [List.getElem?_cons_succ] at hb
          show edgeB o' x.1 = true ∨ edge2 ops o' x.1 = true ∨ Far x.2.1 x.2.2 (if i + (b + 1) = i then e else es (i + (b + 1))).R_ (if i + (b + 1) = i then e else es (i + (b + 1))).W_
          rw [if_neg (show ¬ i + (b + 1) = i by omega), show i + (b + 1) = i + 1 + b by omega]
          exact h3 x (ha1 x hx) b o' hb
    have full : ∀ e, OpD P ops tick i o s e → chk ops o acc e.R_ e.W_ → runE P ops tick rest (i + 1) (s.step o e) (addF acc i e.R_ e.W_) K → _ := fun e hD hc hr => mk e _ hD (chk_all hc) hr addF_mem.1 addF_mem.2
    unfold runE at h
    split at h
    · rename_i hg
      obtain ⟨e, h1, h2, h3⟩ := h
      exact full e (by unfold OpD; rw [hg]; exact h1) h2 h3
    · rename_i j b hg
      obtain ⟨h1, h2, h3⟩ := h
      by_cases hb : guardB b (gval ops s j) = true
      · obtain ⟨e, k1, k2, k3⟩ := h2 hb
        exact full e (by unfold OpD; rw [hg]; exact ⟨h1, fun _ => k1, fun hb' => by rw [hb] at hb'; cases hb'⟩) k2 k3
      · have hb' : guardB b (gval ops s j) = false := by simpa using hb
        exact mk nop acc (by unfold OpD; rw [hg]; exact ⟨h1, fun h => absurd h hb, fun _ => rfl⟩) (fun x _ => .inr (.inr ⟨fun y _ => ⟨by simp [Eff.R_, nop], by simp [Eff.W_, nop]⟩, fun y hy => by simp [Eff.W_, nop] at hy⟩)) (h3 hb') (fun x hx => hx) (.inl ⟨rfl, rfl⟩)

theorem anyA_lex {es : Nat → Eff} (hpair : ∀ (a b : Nat) (o : Oper), a < b → ops[b]? = some o → edgeB o a = true ∨ edge2 ops o a = true ∨ (es a).far (es b)) : ∀ (l : List Oper) (k : Nat) (listed : Array Bool) (s : St), (∀ j, l[j]? = ops[k + j]?) → (∀ j, j < k → listed.getD j true = true) →
    Closd ops listed → Region.lexFrom .any ops l.length k listed = true → TextOK P ops tick es l k s K → anyA P ops tick es l.length listed s K
  | [], _, _, s, _, _, _, hB, h => ⟨by simpa [Region.lexFrom] using hB, h⟩
  | o :: l, k, listed, s, hl, hls, hc, hB, h => by
    have h0 : ops[k]? = some o := by simpa using (hl 0).symm
    simp only [List.length_cons, Region.lexFrom, Bool.and_eq_true] at hB
    obtain ⟨⟨hr, hf⟩, hB'⟩ := hB
    have hrk : k ∈ Region.ready .any ops listed := by simpa using hr
    refine anyA_first h0 l.length listed s (fun j oj hoj hne hun hno hno2 => ⟨Region.free_spec h0 hf j oj hoj hne hun hno, ?_⟩) hc hrk h.1 ?_
    · have hkj : k < j := by
        rcases Nat.lt_trichotomy j k with hlt | he | hgt
        · rw [hls j hlt] at hun; cases hun
        · exact absurd he hne
        · exact hgt
      rcases hpair k j oj hkj hoj with he | he | he
      · exfalso
        unfold edgeB at he
        rw [List.any_eq_true] at he
        obtain ⟨e, hem, hb⟩ := he
        simp only [Bool.and_eq_true, beq_iff_eq] at hb
        exact hno e (by simpa using hem) hb.1 hb.2
      · exfalso
        unfold edge2 at he
        rw [List.any_eq_true] at he
        obtain ⟨e, hem, hb⟩ := he
        simp only [Bool.and_eq_true] at hb
        obtain ⟨hb, hb2⟩ := hb
        cases hoc : ops[e.on]? with
        | none => rw [hoc] at hb2; cases hb2
        | some oc =>
          rw [hoc] at hb2
          simp only [Option.map_some, Option.getD_some] at hb2
          unfold edgeB at hb2
          rw [List.any_eq_true] at hb2
          obtain ⟨e', hem', hb'⟩ := hb2
          simp only [Bool.and_eq_true, beq_iff_eq] at hb'
          exact hno2 e (by simpa using hem) hb oc hoc e' (by simpa using hem') hb'.1 hb'.2
      · exact he
    · refine anyA_lex hpair l (k + 1) _ _ (fun j => by have := hl (j + 1); simpa [Nat.add_assoc, Nat.add_comm 1 j] using this) (fun j hj => ?_) (hc.set hrk) hB' h.2
      by_cases hjk : k = j
      · subst hjk
        rcases Nat.lt_or_ge k listed.size with h' | h'
        · rw [Array.getD_eq_getD_getElem?, Array.getElem?_setIfInBounds_self_of_lt h']; rfl
        · rw [Array.getD_eq_getD_getElem?, Array.getElem?_eq_none (by simpa using h')]; rfl
      · rw [getD_set_ne true hjk]; exact hls j (by omega)

/-- A region that draws its order. -/
theorem awp_draw {Q : Exit → St → Prop} {s : St} {id : Nat} {l : List Oper} (hm : P.follows .mixedOrders = true) (hreg : regOk n l = true) (hB : Region.lexB .any l.toArray = true)
    (h : ∀ K : St → Prop, (∀ s', Q .normal s' → K s') → runD P l.toArray s.k l 0 { s with k := s.k + 1 } [] K) : awp P w0 n (.region id l.toArray true) Q s := by
  have h := h (fun s' => Q .normal s') (fun _ h => h)
  intro m β a w h1 h2 h3
  simp only [regOk, Bool.and_eq_true, List.all_eq_true, decide_eq_true_eq] at hreg
  obtain ⟨hreg, hlen⟩ := hreg
  simp only [Region.lexB, Bool.and_eq_true] at hB
  obtain ⟨es, k1, k2, _⟩ := runE_es l 0 _ [] (runE_of l 0 _ _ h)
  have hA := anyA_lex (ops := l.toArray) (es := es) (fun a b o hab hb => by have := k2 a b o hab (by simpa using hb); simpa using this) l 0 (Array.replicate l.toArray.size false) _ (by simp) (by simp) (fun j oj _ hj => by simp only [Array.getD_eq_getD_getElem?, Array.getElem?_replicate] at hj; split at hj <;> cases hj) (by simpa using hB.2) k1
  refine wp_region_any hm ?_
  have hsz : l.toArray.size = l.length := by simp
  rw [hsz]
  rw [hsz] at hA
  refine anyA_sound (n := n) (fun o ho => (hreg o (by simpa using ho)).2) (fun o ho => (hreg o (by simpa using ho)).1) (by simpa using hlen) l.length _ { s with k := s.k + 1 } m β a _ hA (by simp) h1 (by simp) ((h2.tick (Nat.le_succ _)).draw) h3 (fun j _ => ?_) ?_
  · cases hb : β (s.k, j) with
    | none => rfl
    | some p => have := h2.dom _ _ hb; simp at this
  · intro s' m' β' a' w' hK g1 g2 g3 g4 g5
    exact ⟨s', m', β', hK, g1, g2, by rw [g3]; exact Nat.le_succ _, g4, fun x hx => g5 x (by omega)⟩

/-- A call of a function that changes no object, in such a region. -/
theorem CallD.pure {s : St} {i : Nat} {dst : Option Tmp} {g : FuncId} {args : Array Operand} {ats : Array TypeId} {ty : TypeId} {pos : String} {after : Array Edge} {guard : Option (Nat × Bool)} {rest : List Oper} {acc : Acc} {az : List AV} {v : AV} (hent : enterOk P g) (ht : Tri P g az (pure' v))
    (hco : coL (args.toList.map s.ev) az) (hk : chk ops ⟨dst, .call ⟨.value (.func g), args, ats⟩, ty, pos, after, guard⟩ acc [] [] ∧ runD P ops tick rest (i + 1) (s.step ⟨dst, .call ⟨.value (.func g), args, ats⟩, ty, pos, after, guard⟩ (pure' v)) acc K) :
    CallD P ops tick i ⟨dst, .call ⟨.value (.func g), args, ats⟩, ty, pos, after, guard⟩ rest s acc K :=
  ⟨pure' v, ⟨g, [], [], az, rfl, hent, hco, by simpa using ht, fun x hx => (by cases hx), fun x hx => (by cases hx)⟩, hk.1, runE_of _ _ _ _ hk.2⟩
end
end Go.Proofs.Ytmeekpinkfpnhaa

namespace Go.Proofs.Ytmeekpinkfpnhaa
open Go.RowKit
@[go_sem] theorem ty0_has : hasT Try.prog 0 = true := by kernel_rfl
@[go_sem] theorem ty0_agg : aggT Try.prog 0 = false := by kernel_rfl
@[go_sem] theorem ty0_sz : szT Try.prog 0 = 1 := by kernel_rfl
@[go_sem] theorem ty0_sl : slT Try.prog 0 = false := by kernel_rfl
@[go_sem] theorem ty0_str : strT Try.prog 0 = false := by kernel_rfl
@[go_sem] theorem ty0_zok : zeroOk Try.prog 0 = false := by kernel_rfl
@[go_sem] theorem ty0_by : bytesT Try.prog 0 = 0 := by kernel_rfl
@[go_sem] theorem ty0_ar : arT Try.prog 0 = none := by kernel_rfl
@[go_sem] theorem ty0_pl : placesL Try.prog 0 = none := by kernel_rfl
@[go_sem] theorem ty3_has : hasT Try.prog 3 = true := by kernel_rfl
@[go_sem] theorem ty3_agg : aggT Try.prog 3 = false := by kernel_rfl
@[go_sem] theorem ty3_sz : szT Try.prog 3 = 1 := by kernel_rfl
@[go_sem] theorem ty3_sl : slT Try.prog 3 = false := by kernel_rfl
@[go_sem] theorem ty3_str : strT Try.prog 3 = false := by kernel_rfl
@[go_sem] theorem ty3_zok : zeroOk Try.prog 3 = true := by kernel_rfl
@[go_sem] theorem ty3_by : bytesT Try.prog 3 = 8 := by kernel_rfl
@[go_sem] theorem ty3_ar : arT Try.prog 3 = none := by kernel_rfl
@[go_sem] theorem ty3_pl : placesL Try.prog 3 = none := by kernel_rfl
@[go_sem] theorem ty3_z : zeroAV Try.prog 3 = [.d (.v (.int .i64 0))] := by kernel_rfl
@[go_sem] theorem ty4_has : hasT Try.prog 4 = true := by kernel_rfl
@[go_sem] theorem ty4_agg : aggT Try.prog 4 = false := by kernel_rfl
@[go_sem] theorem ty4_sz : szT Try.prog 4 = 1 := by kernel_rfl
@[go_sem] theorem ty4_sl : slT Try.prog 4 = false := by kernel_rfl
@[go_sem] theorem ty4_str : strT Try.prog 4 = false := by kernel_rfl
@[go_sem] theorem ty4_zok : zeroOk Try.prog 4 = true := by kernel_rfl
@[go_sem] theorem ty4_by : bytesT Try.prog 4 = 1 := by kernel_rfl
@[go_sem] theorem ty4_ar : arT Try.prog 4 = none := by kernel_rfl
@[go_sem] theorem ty4_pl : placesL Try.prog 4 = none := by kernel_rfl
@[go_sem] theorem ty4_z : zeroAV Try.prog 4 = [.d (.v (.bool false))] := by kernel_rfl
@[go_sem] theorem ty20_has : hasT Try.prog 20 = true := by kernel_rfl
@[go_sem] theorem ty20_agg : aggT Try.prog 20 = false := by kernel_rfl
@[go_sem] theorem ty20_sz : szT Try.prog 20 = 1 := by kernel_rfl
@[go_sem] theorem ty20_sl : slT Try.prog 20 = false := by kernel_rfl
@[go_sem] theorem ty20_str : strT Try.prog 20 = false := by kernel_rfl
@[go_sem] theorem ty20_zok : zeroOk Try.prog 20 = true := by kernel_rfl
@[go_sem] theorem ty20_by : bytesT Try.prog 20 = 16 := by kernel_rfl
@[go_sem] theorem ty20_ar : arT Try.prog 20 = none := by kernel_rfl
@[go_sem] theorem ty20_pl : placesL Try.prog 20 = none := by kernel_rfl
@[go_sem] theorem ty20_z : zeroAV Try.prog 20 = [.d (.v (.nilIface))] := by kernel_rfl
@[go_sem] theorem ty22_has : hasT Try.prog 22 = true := by kernel_rfl
@[go_sem] theorem ty22_agg : aggT Try.prog 22 = false := by kernel_rfl
@[go_sem] theorem ty22_sz : szT Try.prog 22 = 1 := by kernel_rfl
@[go_sem] theorem ty22_sl : slT Try.prog 22 = true := by kernel_rfl
@[go_sem] theorem ty22_str : strT Try.prog 22 = false := by kernel_rfl
@[go_sem] theorem ty22_zok : zeroOk Try.prog 22 = true := by kernel_rfl
@[go_sem] theorem ty22_by : bytesT Try.prog 22 = 24 := by kernel_rfl
@[go_sem] theorem ty22_el : elT Try.prog 22 = 3 := by kernel_rfl
@[go_sem] theorem ty22_ar : arT Try.prog 22 = none := by kernel_rfl
@[go_sem] theorem ty22_pl : placesL Try.prog 22 = none := by kernel_rfl
@[go_sem] theorem ty22_z : zeroAV Try.prog 22 = [.nil] := by kernel_rfl
@[go_sem] theorem ty24_has : hasT Try.prog 24 = true := by kernel_rfl
@[go_sem] theorem ty24_agg : aggT Try.prog 24 = true := by kernel_rfl
@[go_sem] theorem ty24_sz : szT Try.prog 24 = 1 := by kernel_rfl
@[go_sem] theorem ty24_sl : slT Try.prog 24 = false := by kernel_rfl
@[go_sem] theorem ty24_str : strT Try.prog 24 = false := by kernel_rfl
@[go_sem] theorem ty24_zok : zeroOk Try.prog 24 = true := by kernel_rfl
@[go_sem] theorem ty24_by : bytesT Try.prog 24 = 24 := by kernel_rfl
@[go_sem] theorem ty24_ar : arT Try.prog 24 = none := by kernel_rfl
@[go_sem] theorem ty24_pl : placesL Try.prog 24 = some [(0, 1)] := by kernel_rfl
@[go_sem] theorem ty24_f0 : fldT Try.prog 24 0 = some (0, 22) := by kernel_rfl
@[go_sem] theorem ty24_z : zeroAV Try.prog 24 = [.nil] := by kernel_rfl
@[go_sem] theorem ty25_has : hasT Try.prog 25 = true := by kernel_rfl
@[go_sem] theorem ty25_agg : aggT Try.prog 25 = false := by kernel_rfl
@[go_sem] theorem ty25_sz : szT Try.prog 25 = 1 := by kernel_rfl
@[go_sem] theorem ty25_sl : slT Try.prog 25 = true := by kernel_rfl
@[go_sem] theorem ty25_str : strT Try.prog 25 = false := by kernel_rfl
@[go_sem] theorem ty25_zok : zeroOk Try.prog 25 = true := by kernel_rfl
@[go_sem] theorem ty25_by : bytesT Try.prog 25 = 24 := by kernel_rfl
@[go_sem] theorem ty25_el : elT Try.prog 25 = 27 := by kernel_rfl
@[go_sem] theorem ty25_ar : arT Try.prog 25 = none := by kernel_rfl
@[go_sem] theorem ty25_pl : placesL Try.prog 25 = none := by kernel_rfl
@[go_sem] theorem ty25_z : zeroAV Try.prog 25 = [.nil] := by kernel_rfl
@[go_sem] theorem ty27_has : hasT Try.prog 27 = true := by kernel_rfl
@[go_sem] theorem ty27_agg : aggT Try.prog 27 = true := by kernel_rfl
@[go_sem] theorem ty27_sz : szT Try.prog 27 = 3 := by kernel_rfl
@[go_sem] theorem ty27_sl : slT Try.prog 27 = false := by kernel_rfl
@[go_sem] theorem ty27_str : strT Try.prog 27 = false := by kernel_rfl
@[go_sem] theorem ty27_zok : zeroOk Try.prog 27 = true := by kernel_rfl
@[go_sem] theorem ty27_by : bytesT Try.prog 27 = 40 := by kernel_rfl
@[go_sem] theorem ty27_ar : arT Try.prog 27 = none := by kernel_rfl
@[go_sem] theorem ty27_pl : placesL Try.prog 27 = some [(0, 1), (1, 1), (2, 1)] := by kernel_rfl
@[go_sem] theorem ty27_f0 : fldT Try.prog 27 0 = some (0, 3) := by kernel_rfl
@[go_sem] theorem ty27_f1 : fldT Try.prog 27 1 = some (1, 3) := by kernel_rfl
@[go_sem] theorem ty27_f2 : fldT Try.prog 27 2 = some (2, 25) := by kernel_rfl
@[go_sem] theorem ty27_z : zeroAV Try.prog 27 = [.d (.v (.int .i64 0)), .d (.v (.int .i64 0)), .nil] := by kernel_rfl
@[go_sem] theorem ty28_has : hasT Try.prog 28 = true := by kernel_rfl
@[go_sem] theorem ty28_agg : aggT Try.prog 28 = false := by kernel_rfl
@[go_sem] theorem ty28_sz : szT Try.prog 28 = 1 := by kernel_rfl
@[go_sem] theorem ty28_sl : slT Try.prog 28 = false := by kernel_rfl
@[go_sem] theorem ty28_str : strT Try.prog 28 = false := by kernel_rfl
@[go_sem] theorem ty28_zok : zeroOk Try.prog 28 = true := by kernel_rfl
@[go_sem] theorem ty28_by : bytesT Try.prog 28 = 8 := by kernel_rfl
@[go_sem] theorem ty28_ar : arT Try.prog 28 = none := by kernel_rfl
@[go_sem] theorem ty28_pl : placesL Try.prog 28 = none := by kernel_rfl
@[go_sem] theorem ty28_z : zeroAV Try.prog 28 = [.d (.v (.int .i64 0))] := by kernel_rfl
@[go_sem] theorem ty34_has : hasT Try.prog 34 = true := by kernel_rfl
@[go_sem] theorem ty34_agg : aggT Try.prog 34 = false := by kernel_rfl
@[go_sem] theorem ty34_sz : szT Try.prog 34 = 1 := by kernel_rfl
@[go_sem] theorem ty34_sl : slT Try.prog 34 = false := by kernel_rfl
@[go_sem] theorem ty34_str : strT Try.prog 34 = false := by kernel_rfl
@[go_sem] theorem ty34_zok : zeroOk Try.prog 34 = true := by kernel_rfl
@[go_sem] theorem ty34_by : bytesT Try.prog 34 = 8 := by kernel_rfl
@[go_sem] theorem ty34_ar : arT Try.prog 34 = none := by kernel_rfl
@[go_sem] theorem ty34_pl : placesL Try.prog 34 = none := by kernel_rfl
@[go_sem] theorem ty34_z : zeroAV Try.prog 34 = [.d (.v (.nilFunc))] := by kernel_rfl
@[go_sem] theorem ty37_has : hasT Try.prog 37 = true := by kernel_rfl
@[go_sem] theorem ty37_agg : aggT Try.prog 37 = false := by kernel_rfl
@[go_sem] theorem ty37_sz : szT Try.prog 37 = 1 := by kernel_rfl
@[go_sem] theorem ty37_sl : slT Try.prog 37 = true := by kernel_rfl
@[go_sem] theorem ty37_str : strT Try.prog 37 = false := by kernel_rfl
@[go_sem] theorem ty37_zok : zeroOk Try.prog 37 = true := by kernel_rfl
@[go_sem] theorem ty37_by : bytesT Try.prog 37 = 24 := by kernel_rfl
@[go_sem] theorem ty37_el : elT Try.prog 37 = 22 := by kernel_rfl
@[go_sem] theorem ty37_ar : arT Try.prog 37 = none := by kernel_rfl
@[go_sem] theorem ty37_pl : placesL Try.prog 37 = none := by kernel_rfl
@[go_sem] theorem ty37_z : zeroAV Try.prog 37 = [.nil] := by kernel_rfl
@[go_sem] theorem ty39_has : hasT Try.prog 39 = true := by kernel_rfl
@[go_sem] theorem ty39_agg : aggT Try.prog 39 = true := by kernel_rfl
@[go_sem] theorem ty39_sz : szT Try.prog 39 = 2 := by kernel_rfl
@[go_sem] theorem ty39_sl : slT Try.prog 39 = false := by kernel_rfl
@[go_sem] theorem ty39_str : strT Try.prog 39 = false := by kernel_rfl
@[go_sem] theorem ty39_zok : zeroOk Try.prog 39 = true := by kernel_rfl
@[go_sem] theorem ty39_by : bytesT Try.prog 39 = 32 := by kernel_rfl
@[go_sem] theorem ty39_ar : arT Try.prog 39 = none := by kernel_rfl
@[go_sem] theorem ty39_pl : placesL Try.prog 39 = some [(0, 1), (1, 1)] := by kernel_rfl
@[go_sem] theorem ty39_f0 : fldT Try.prog 39 0 = some (0, 3) := by kernel_rfl
@[go_sem] theorem ty39_f1 : fldT Try.prog 39 1 = some (1, 37) := by kernel_rfl
@[go_sem] theorem ty39_z : zeroAV Try.prog 39 = [.d (.v (.int .i64 0)), .nil] := by kernel_rfl
@[go_sem] theorem ty40_has : hasT Try.prog 40 = true := by kernel_rfl
@[go_sem] theorem ty40_agg : aggT Try.prog 40 = false := by kernel_rfl
@[go_sem] theorem ty40_sz : szT Try.prog 40 = 1 := by kernel_rfl
@[go_sem] theorem ty40_sl : slT Try.prog 40 = true := by kernel_rfl
@[go_sem] theorem ty40_str : strT Try.prog 40 = false := by kernel_rfl
@[go_sem] theorem ty40_zok : zeroOk Try.prog 40 = true := by kernel_rfl
@[go_sem] theorem ty40_by : bytesT Try.prog 40 = 24 := by kernel_rfl
@[go_sem] theorem ty40_el : elT Try.prog 40 = 107 := by kernel_rfl
@[go_sem] theorem ty40_ar : arT Try.prog 40 = none := by kernel_rfl
@[go_sem] theorem ty40_pl : placesL Try.prog 40 = none := by kernel_rfl
@[go_sem] theorem ty40_z : zeroAV Try.prog 40 = [.nil] := by kernel_rfl
@[go_sem] theorem ty41_has : hasT Try.prog 41 = true := by kernel_rfl
@[go_sem] theorem ty41_agg : aggT Try.prog 41 = false := by kernel_rfl
@[go_sem] theorem ty41_sz : szT Try.prog 41 = 1 := by kernel_rfl
@[go_sem] theorem ty41_sl : slT Try.prog 41 = true := by kernel_rfl
@[go_sem] theorem ty41_str : strT Try.prog 41 = false := by kernel_rfl
@[go_sem] theorem ty41_zok : zeroOk Try.prog 41 = true := by kernel_rfl
@[go_sem] theorem ty41_by : bytesT Try.prog 41 = 24 := by kernel_rfl
@[go_sem] theorem ty41_el : elT Try.prog 41 = 107 := by kernel_rfl
@[go_sem] theorem ty41_ar : arT Try.prog 41 = none := by kernel_rfl
@[go_sem] theorem ty41_pl : placesL Try.prog 41 = none := by kernel_rfl
@[go_sem] theorem ty41_z : zeroAV Try.prog 41 = [.nil] := by kernel_rfl
@[go_sem] theorem ty49_has : hasT Try.prog 49 = true := by kernel_rfl
@[go_sem] theorem ty49_agg : aggT Try.prog 49 = false := by kernel_rfl
@[go_sem] theorem ty49_sz : szT Try.prog 49 = 1 := by kernel_rfl
@[go_sem] theorem ty49_sl : slT Try.prog 49 = true := by kernel_rfl
@[go_sem] theorem ty49_str : strT Try.prog 49 = false := by kernel_rfl
@[go_sem] theorem ty49_zok : zeroOk Try.prog 49 = true := by kernel_rfl
@[go_sem] theorem ty49_by : bytesT Try.prog 49 = 24 := by kernel_rfl
@[go_sem] theorem ty49_el : elT Try.prog 49 = 41 := by kernel_rfl
@[go_sem] theorem ty49_ar : arT Try.prog 49 = none := by kernel_rfl
@[go_sem] theorem ty49_pl : placesL Try.prog 49 = none := by kernel_rfl
@[go_sem] theorem ty49_z : zeroAV Try.prog 49 = [.nil] := by kernel_rfl
@[go_sem] theorem ty64_has : hasT Try.prog 64 = true := by kernel_rfl
@[go_sem] theorem ty64_agg : aggT Try.prog 64 = false := by kernel_rfl
@[go_sem] theorem ty64_sz : szT Try.prog 64 = 1 := by kernel_rfl
@[go_sem] theorem ty64_sl : slT Try.prog 64 = true := by kernel_rfl
@[go_sem] theorem ty64_str : strT Try.prog 64 = false := by kernel_rfl
@[go_sem] theorem ty64_zok : zeroOk Try.prog 64 = true := by kernel_rfl
@[go_sem] theorem ty64_by : bytesT Try.prog 64 = 24 := by kernel_rfl
@[go_sem] theorem ty64_el : elT Try.prog 64 = 125 := by kernel_rfl
@[go_sem] theorem ty64_ar : arT Try.prog 64 = none := by kernel_rfl
@[go_sem] theorem ty64_pl : placesL Try.prog 64 = none := by kernel_rfl
@[go_sem] theorem ty64_z : zeroAV Try.prog 64 = [.nil] := by kernel_rfl
@[go_sem] theorem ty93_has : hasT Try.prog 93 = true := by kernel_rfl
@[go_sem] theorem ty93_agg : aggT Try.prog 93 = false := by kernel_rfl
@[go_sem] theorem ty93_sz : szT Try.prog 93 = 1 := by kernel_rfl
@[go_sem] theorem ty93_sl : slT Try.prog 93 = true := by kernel_rfl
@[go_sem] theorem ty93_str : strT Try.prog 93 = false := by kernel_rfl
@[go_sem] theorem ty93_zok : zeroOk Try.prog 93 = true := by kernel_rfl
@[go_sem] theorem ty93_by : bytesT Try.prog 93 = 24 := by kernel_rfl
@[go_sem] theorem ty93_el : elT Try.prog 93 = 94 := by kernel_rfl
@[go_sem] theorem ty93_ar : arT Try.prog 93 = none := by kernel_rfl
@[go_sem] theorem ty93_pl : placesL Try.prog 93 = none := by kernel_rfl
@[go_sem] theorem ty93_z : zeroAV Try.prog 93 = [.nil] := by kernel_rfl
@[go_sem] theorem ty94_has : hasT Try.prog 94 = true := by kernel_rfl
@[go_sem] theorem ty94_agg : aggT Try.prog 94 = false := by kernel_rfl
@[go_sem] theorem ty94_sz : szT Try.prog 94 = 1 := by kernel_rfl
@[go_sem] theorem ty94_sl : slT Try.prog 94 = true := by kernel_rfl
@[go_sem] theorem ty94_str : strT Try.prog 94 = false := by kernel_rfl
@[go_sem] theorem ty94_zok : zeroOk Try.prog 94 = true := by kernel_rfl
@[go_sem] theorem ty94_by : bytesT Try.prog 94 = 24 := by kernel_rfl
@[go_sem] theorem ty94_el : elT Try.prog 94 = 4 := by kernel_rfl
@[go_sem] theorem ty94_ar : arT Try.prog 94 = none := by kernel_rfl
@[go_sem] theorem ty94_pl : placesL Try.prog 94 = none := by kernel_rfl
@[go_sem] theorem ty94_z : zeroAV Try.prog 94 = [.nil] := by kernel_rfl
@[go_sem] theorem ty100_has : hasT Try.prog 100 = true := by kernel_rfl
@[go_sem] theorem ty100_agg : aggT Try.prog 100 = false := by kernel_rfl
@[go_sem] theorem ty100_sz : szT Try.prog 100 = 1 := by kernel_rfl
@[go_sem] theorem ty100_sl : slT Try.prog 100 = false := by kernel_rfl
@[go_sem] theorem ty100_str : strT Try.prog 100 = false := by kernel_rfl
@[go_sem] theorem ty100_zok : zeroOk Try.prog 100 = true := by kernel_rfl
@[go_sem] theorem ty100_by : bytesT Try.prog 100 = 8 := by kernel_rfl
@[go_sem] theorem ty100_ar : arT Try.prog 100 = none := by kernel_rfl
@[go_sem] theorem ty100_pl : placesL Try.prog 100 = none := by kernel_rfl
@[go_sem] theorem ty100_z : zeroAV Try.prog 100 = [.d (.v (.nilFunc))] := by kernel_rfl
@[go_sem] theorem ty102_has : hasT Try.prog 102 = true := by kernel_rfl
@[go_sem] theorem ty102_agg : aggT Try.prog 102 = false := by kernel_rfl
@[go_sem] theorem ty102_sz : szT Try.prog 102 = 1 := by kernel_rfl
@[go_sem] theorem ty102_sl : slT Try.prog 102 = false := by kernel_rfl
@[go_sem] theorem ty102_str : strT Try.prog 102 = false := by kernel_rfl
@[go_sem] theorem ty102_zok : zeroOk Try.prog 102 = true := by kernel_rfl
@[go_sem] theorem ty102_by : bytesT Try.prog 102 = 8 := by kernel_rfl
@[go_sem] theorem ty102_ar : arT Try.prog 102 = none := by kernel_rfl
@[go_sem] theorem ty102_pl : placesL Try.prog 102 = none := by kernel_rfl
@[go_sem] theorem ty102_z : zeroAV Try.prog 102 = [.d (.v (.nilFunc))] := by kernel_rfl
@[go_sem] theorem ty104_has : hasT Try.prog 104 = true := by kernel_rfl
@[go_sem] theorem ty104_agg : aggT Try.prog 104 = false := by kernel_rfl
@[go_sem] theorem ty104_sz : szT Try.prog 104 = 1 := by kernel_rfl
@[go_sem] theorem ty104_sl : slT Try.prog 104 = false := by kernel_rfl
@[go_sem] theorem ty104_str : strT Try.prog 104 = false := by kernel_rfl
@[go_sem] theorem ty104_zok : zeroOk Try.prog 104 = true := by kernel_rfl
@[go_sem] theorem ty104_by : bytesT Try.prog 104 = 8 := by kernel_rfl
@[go_sem] theorem ty104_ar : arT Try.prog 104 = none := by kernel_rfl
@[go_sem] theorem ty104_pl : placesL Try.prog 104 = none := by kernel_rfl
@[go_sem] theorem ty104_z : zeroAV Try.prog 104 = [.d (.v (.map none))] := by kernel_rfl
@[go_sem] theorem ty107_has : hasT Try.prog 107 = true := by kernel_rfl
@[go_sem] theorem ty107_agg : aggT Try.prog 107 = true := by kernel_rfl
@[go_sem] theorem ty107_sz : szT Try.prog 107 = 7 := by kernel_rfl
@[go_sem] theorem ty107_sl : slT Try.prog 107 = false := by kernel_rfl
@[go_sem] theorem ty107_str : strT Try.prog 107 = false := by kernel_rfl
@[go_sem] theorem ty107_zok : zeroOk Try.prog 107 = true := by kernel_rfl
@[go_sem] theorem ty107_by : bytesT Try.prog 107 = 88 := by kernel_rfl
@[go_sem] theorem ty107_ar : arT Try.prog 107 = none := by kernel_rfl
@[go_sem] theorem ty107_pl : placesL Try.prog 107 = some [(0, 1), (1, 3), (4, 3)] := by kernel_rfl
@[go_sem] theorem ty107_f0 : fldT Try.prog 107 0 = some (0, 4) := by kernel_rfl
@[go_sem] theorem ty107_f1 : fldT Try.prog 107 1 = some (1, 27) := by kernel_rfl
@[go_sem] theorem ty107_f2 : fldT Try.prog 107 2 = some (4, 27) := by kernel_rfl
@[go_sem] theorem ty107_z : zeroAV Try.prog 107 = [.d (.v (.bool false)), .d (.v (.int .i64 0)), .d (.v (.int .i64 0)), .nil, .d (.v (.int .i64 0)), .d (.v (.int .i64 0)), .nil] := by kernel_rfl
@[go_sem] theorem ty108_has : hasT Try.prog 108 = true := by kernel_rfl
@[go_sem] theorem ty108_agg : aggT Try.prog 108 = false := by kernel_rfl
@[go_sem] theorem ty108_sz : szT Try.prog 108 = 1 := by kernel_rfl
@[go_sem] theorem ty108_sl : slT Try.prog 108 = false := by kernel_rfl
@[go_sem] theorem ty108_str : strT Try.prog 108 = false := by kernel_rfl
@[go_sem] theorem ty108_zok : zeroOk Try.prog 108 = true := by kernel_rfl
@[go_sem] theorem ty108_by : bytesT Try.prog 108 = 8 := by kernel_rfl
@[go_sem] theorem ty108_ar : arT Try.prog 108 = none := by kernel_rfl
@[go_sem] theorem ty108_pl : placesL Try.prog 108 = none := by kernel_rfl
@[go_sem] theorem ty108_z : zeroAV Try.prog 108 = [.d (.v (.nilFunc))] := by kernel_rfl
@[go_sem] theorem ty113_has : hasT Try.prog 113 = true := by kernel_rfl
@[go_sem] theorem ty113_agg : aggT Try.prog 113 = false := by kernel_rfl
@[go_sem] theorem ty113_sz : szT Try.prog 113 = 1 := by kernel_rfl
@[go_sem] theorem ty113_sl : slT Try.prog 113 = false := by kernel_rfl
@[go_sem] theorem ty113_str : strT Try.prog 113 = false := by kernel_rfl
@[go_sem] theorem ty113_zok : zeroOk Try.prog 113 = true := by kernel_rfl
@[go_sem] theorem ty113_by : bytesT Try.prog 113 = 8 := by kernel_rfl
@[go_sem] theorem ty113_ar : arT Try.prog 113 = none := by kernel_rfl
@[go_sem] theorem ty113_pl : placesL Try.prog 113 = none := by kernel_rfl
@[go_sem] theorem ty113_z : zeroAV Try.prog 113 = [.d (.v (.nilFunc))] := by kernel_rfl
@[go_sem] theorem ty115_has : hasT Try.prog 115 = true := by kernel_rfl
@[go_sem] theorem ty115_agg : aggT Try.prog 115 = false := by kernel_rfl
@[go_sem] theorem ty115_sz : szT Try.prog 115 = 1 := by kernel_rfl
@[go_sem] theorem ty115_sl : slT Try.prog 115 = true := by kernel_rfl
@[go_sem] theorem ty115_str : strT Try.prog 115 = false := by kernel_rfl
@[go_sem] theorem ty115_zok : zeroOk Try.prog 115 = true := by kernel_rfl
@[go_sem] theorem ty115_by : bytesT Try.prog 115 = 24 := by kernel_rfl
@[go_sem] theorem ty115_el : elT Try.prog 115 = 117 := by kernel_rfl
@[go_sem] theorem ty115_ar : arT Try.prog 115 = none := by kernel_rfl
@[go_sem] theorem ty115_pl : placesL Try.prog 115 = none := by kernel_rfl
@[go_sem] theorem ty115_z : zeroAV Try.prog 115 = [.nil] := by kernel_rfl
@[go_sem] theorem ty117_has : hasT Try.prog 117 = true := by kernel_rfl
@[go_sem] theorem ty117_agg : aggT Try.prog 117 = true := by kernel_rfl
@[go_sem] theorem ty117_sz : szT Try.prog 117 = 4 := by kernel_rfl
@[go_sem] theorem ty117_sl : slT Try.prog 117 = false := by kernel_rfl
@[go_sem] theorem ty117_str : strT Try.prog 117 = false := by kernel_rfl
@[go_sem] theorem ty117_zok : zeroOk Try.prog 117 = true := by kernel_rfl
@[go_sem] theorem ty117_by : bytesT Try.prog 117 = 48 := by kernel_rfl
@[go_sem] theorem ty117_ar : arT Try.prog 117 = none := by kernel_rfl
@[go_sem] theorem ty117_pl : placesL Try.prog 117 = some [(0, 1), (1, 3)] := by kernel_rfl
@[go_sem] theorem ty117_f0 : fldT Try.prog 117 0 = some (0, 3) := by kernel_rfl
@[go_sem] theorem ty117_f1 : fldT Try.prog 117 1 = some (1, 27) := by kernel_rfl
@[go_sem] theorem ty117_z : zeroAV Try.prog 117 = [.d (.v (.int .i64 0)), .d (.v (.int .i64 0)), .d (.v (.int .i64 0)), .nil] := by kernel_rfl
@[go_sem] theorem ty123_has : hasT Try.prog 123 = true := by kernel_rfl
@[go_sem] theorem ty123_agg : aggT Try.prog 123 = false := by kernel_rfl
@[go_sem] theorem ty123_sz : szT Try.prog 123 = 1 := by kernel_rfl
@[go_sem] theorem ty123_sl : slT Try.prog 123 = false := by kernel_rfl
@[go_sem] theorem ty123_str : strT Try.prog 123 = false := by kernel_rfl
@[go_sem] theorem ty123_zok : zeroOk Try.prog 123 = true := by kernel_rfl
@[go_sem] theorem ty123_by : bytesT Try.prog 123 = 8 := by kernel_rfl
@[go_sem] theorem ty123_ar : arT Try.prog 123 = none := by kernel_rfl
@[go_sem] theorem ty123_pl : placesL Try.prog 123 = none := by kernel_rfl
@[go_sem] theorem ty123_z : zeroAV Try.prog 123 = [.d (.v (.nilFunc))] := by kernel_rfl
@[go_sem] theorem ty125_has : hasT Try.prog 125 = true := by kernel_rfl
@[go_sem] theorem ty125_agg : aggT Try.prog 125 = true := by kernel_rfl
@[go_sem] theorem ty125_sz : szT Try.prog 125 = 6 := by kernel_rfl
@[go_sem] theorem ty125_sl : slT Try.prog 125 = false := by kernel_rfl
@[go_sem] theorem ty125_str : strT Try.prog 125 = false := by kernel_rfl
@[go_sem] theorem ty125_zok : zeroOk Try.prog 125 = true := by kernel_rfl
@[go_sem] theorem ty125_by : bytesT Try.prog 125 = 80 := by kernel_rfl
@[go_sem] theorem ty125_ar : arT Try.prog 125 = none := by kernel_rfl
@[go_sem] theorem ty125_pl : placesL Try.prog 125 = some [(0, 3), (3, 3)] := by kernel_rfl
@[go_sem] theorem ty125_f0 : fldT Try.prog 125 0 = some (0, 27) := by kernel_rfl
@[go_sem] theorem ty125_f1 : fldT Try.prog 125 1 = some (3, 27) := by kernel_rfl
@[go_sem] theorem ty125_z : zeroAV Try.prog 125 = [.d (.v (.int .i64 0)), .d (.v (.int .i64 0)), .nil, .d (.v (.int .i64 0)), .d (.v (.int .i64 0)), .nil] := by kernel_rfl
@[go_sem] theorem ty129_has : hasT Try.prog 129 = true := by kernel_rfl
@[go_sem] theorem ty129_agg : aggT Try.prog 129 = false := by kernel_rfl
@[go_sem] theorem ty129_sz : szT Try.prog 129 = 1 := by kernel_rfl
@[go_sem] theorem ty129_sl : slT Try.prog 129 = false := by kernel_rfl
@[go_sem] theorem ty129_str : strT Try.prog 129 = false := by kernel_rfl
@[go_sem] theorem ty129_zok : zeroOk Try.prog 129 = true := by kernel_rfl
@[go_sem] theorem ty129_by : bytesT Try.prog 129 = 8 := by kernel_rfl
@[go_sem] theorem ty129_ar : arT Try.prog 129 = none := by kernel_rfl
@[go_sem] theorem ty129_pl : placesL Try.prog 129 = none := by kernel_rfl
@[go_sem] theorem ty129_z : zeroAV Try.prog 129 = [.d (.v (.pointer none))] := by kernel_rfl
@[go_sem] theorem ty130_has : hasT Try.prog 130 = true := by kernel_rfl
@[go_sem] theorem ty130_agg : aggT Try.prog 130 = false := by kernel_rfl
@[go_sem] theorem ty130_sz : szT Try.prog 130 = 1 := by kernel_rfl
@[go_sem] theorem ty130_sl : slT Try.prog 130 = true := by kernel_rfl
@[go_sem] theorem ty130_str : strT Try.prog 130 = false := by kernel_rfl
@[go_sem] theorem ty130_zok : zeroOk Try.prog 130 = true := by kernel_rfl
@[go_sem] theorem ty130_by : bytesT Try.prog 130 = 24 := by kernel_rfl
@[go_sem] theorem ty130_el : elT Try.prog 130 = 157 := by kernel_rfl
@[go_sem] theorem ty130_ar : arT Try.prog 130 = none := by kernel_rfl
@[go_sem] theorem ty130_pl : placesL Try.prog 130 = none := by kernel_rfl
@[go_sem] theorem ty130_z : zeroAV Try.prog 130 = [.nil] := by kernel_rfl
@[go_sem] theorem ty132_has : hasT Try.prog 132 = true := by kernel_rfl
@[go_sem] theorem ty132_agg : aggT Try.prog 132 = false := by kernel_rfl
@[go_sem] theorem ty132_sz : szT Try.prog 132 = 1 := by kernel_rfl
@[go_sem] theorem ty132_sl : slT Try.prog 132 = false := by kernel_rfl
@[go_sem] theorem ty132_str : strT Try.prog 132 = false := by kernel_rfl
@[go_sem] theorem ty132_zok : zeroOk Try.prog 132 = true := by kernel_rfl
@[go_sem] theorem ty132_by : bytesT Try.prog 132 = 8 := by kernel_rfl
@[go_sem] theorem ty132_ar : arT Try.prog 132 = none := by kernel_rfl
@[go_sem] theorem ty132_pl : placesL Try.prog 132 = none := by kernel_rfl
@[go_sem] theorem ty132_z : zeroAV Try.prog 132 = [.d (.v (.map none))] := by kernel_rfl
@[go_sem] theorem ty134_has : hasT Try.prog 134 = true := by kernel_rfl
@[go_sem] theorem ty134_agg : aggT Try.prog 134 = true := by kernel_rfl
@[go_sem] theorem ty134_sz : szT Try.prog 134 = 4 := by kernel_rfl
@[go_sem] theorem ty134_sl : slT Try.prog 134 = false := by kernel_rfl
@[go_sem] theorem ty134_str : strT Try.prog 134 = false := by kernel_rfl
@[go_sem] theorem ty134_zok : zeroOk Try.prog 134 = true := by kernel_rfl
@[go_sem] theorem ty134_by : bytesT Try.prog 134 = 64 := by kernel_rfl
@[go_sem] theorem ty134_ar : arT Try.prog 134 = none := by kernel_rfl
@[go_sem] theorem ty134_pl : placesL Try.prog 134 = some [(0, 1), (1, 1), (2, 1), (3, 1)] := by kernel_rfl
@[go_sem] theorem ty134_f0 : fldT Try.prog 134 0 = some (0, 130) := by kernel_rfl
@[go_sem] theorem ty134_f1 : fldT Try.prog 134 1 = some (1, 130) := by kernel_rfl
@[go_sem] theorem ty134_f2 : fldT Try.prog 134 2 = some (2, 132) := by kernel_rfl
@[go_sem] theorem ty134_f3 : fldT Try.prog 134 3 = some (3, 132) := by kernel_rfl
@[go_sem] theorem ty134_z : zeroAV Try.prog 134 = [.nil, .nil, .d (.v (.map none)), .d (.v (.map none))] := by kernel_rfl
@[go_sem] theorem ty136_has : hasT Try.prog 136 = true := by kernel_rfl
@[go_sem] theorem ty136_agg : aggT Try.prog 136 = true := by kernel_rfl
@[go_sem] theorem ty136_sz : szT Try.prog 136 = 2 := by kernel_rfl
@[go_sem] theorem ty136_sl : slT Try.prog 136 = false := by kernel_rfl
@[go_sem] theorem ty136_str : strT Try.prog 136 = false := by kernel_rfl
@[go_sem] theorem ty136_zok : zeroOk Try.prog 136 = true := by kernel_rfl
@[go_sem] theorem ty136_by : bytesT Try.prog 136 = 16 := by kernel_rfl
@[go_sem] theorem ty136_el : elT Try.prog 136 = 3 := by kernel_rfl
@[go_sem] theorem ty136_ar : arT Try.prog 136 = some 2 := by kernel_rfl
@[go_sem] theorem ty136_pl : placesL Try.prog 136 = none := by kernel_rfl
@[go_sem] theorem ty136_z : zeroAV Try.prog 136 = [.d (.v (.int .i64 0)), .d (.v (.int .i64 0))] := by kernel_rfl
@[go_sem] theorem ty139_has : hasT Try.prog 139 = true := by kernel_rfl
@[go_sem] theorem ty139_agg : aggT Try.prog 139 = false := by kernel_rfl
@[go_sem] theorem ty139_sz : szT Try.prog 139 = 1 := by kernel_rfl
@[go_sem] theorem ty139_sl : slT Try.prog 139 = false := by kernel_rfl
@[go_sem] theorem ty139_str : strT Try.prog 139 = false := by kernel_rfl
@[go_sem] theorem ty139_zok : zeroOk Try.prog 139 = true := by kernel_rfl
@[go_sem] theorem ty139_by : bytesT Try.prog 139 = 8 := by kernel_rfl
@[go_sem] theorem ty139_ar : arT Try.prog 139 = none := by kernel_rfl
@[go_sem] theorem ty139_pl : placesL Try.prog 139 = none := by kernel_rfl
@[go_sem] theorem ty139_z : zeroAV Try.prog 139 = [.d (.v (.nilFunc))] := by kernel_rfl
@[go_sem] theorem ty142_has : hasT Try.prog 142 = true := by kernel_rfl
@[go_sem] theorem ty142_agg : aggT Try.prog 142 = false := by kernel_rfl
@[go_sem] theorem ty142_sz : szT Try.prog 142 = 1 := by kernel_rfl
@[go_sem] theorem ty142_sl : slT Try.prog 142 = false := by kernel_rfl
@[go_sem] theorem ty142_str : strT Try.prog 142 = false := by kernel_rfl
@[go_sem] theorem ty142_zok : zeroOk Try.prog 142 = true := by kernel_rfl
@[go_sem] theorem ty142_by : bytesT Try.prog 142 = 8 := by kernel_rfl
@[go_sem] theorem ty142_ar : arT Try.prog 142 = none := by kernel_rfl
@[go_sem] theorem ty142_pl : placesL Try.prog 142 = none := by kernel_rfl
@[go_sem] theorem ty142_z : zeroAV Try.prog 142 = [.d (.v (.map none))] := by kernel_rfl
@[go_sem] theorem ty151_has : hasT Try.prog 151 = true := by kernel_rfl
@[go_sem] theorem ty151_agg : aggT Try.prog 151 = false := by kernel_rfl
@[go_sem] theorem ty151_sz : szT Try.prog 151 = 1 := by kernel_rfl
@[go_sem] theorem ty151_sl : slT Try.prog 151 = false := by kernel_rfl
@[go_sem] theorem ty151_str : strT Try.prog 151 = false := by kernel_rfl
@[go_sem] theorem ty151_zok : zeroOk Try.prog 151 = true := by kernel_rfl
@[go_sem] theorem ty151_by : bytesT Try.prog 151 = 8 := by kernel_rfl
@[go_sem] theorem ty151_ar : arT Try.prog 151 = none := by kernel_rfl
@[go_sem] theorem ty151_pl : placesL Try.prog 151 = none := by kernel_rfl
@[go_sem] theorem ty151_z : zeroAV Try.prog 151 = [.d (.v (.nilFunc))] := by kernel_rfl
@[go_sem] theorem ty154_has : hasT Try.prog 154 = true := by kernel_rfl
@[go_sem] theorem ty154_agg : aggT Try.prog 154 = false := by kernel_rfl
@[go_sem] theorem ty154_sz : szT Try.prog 154 = 1 := by kernel_rfl
@[go_sem] theorem ty154_sl : slT Try.prog 154 = false := by kernel_rfl
@[go_sem] theorem ty154_str : strT Try.prog 154 = false := by kernel_rfl
@[go_sem] theorem ty154_zok : zeroOk Try.prog 154 = true := by kernel_rfl
@[go_sem] theorem ty154_by : bytesT Try.prog 154 = 8 := by kernel_rfl
@[go_sem] theorem ty154_ar : arT Try.prog 154 = none := by kernel_rfl
@[go_sem] theorem ty154_pl : placesL Try.prog 154 = none := by kernel_rfl
@[go_sem] theorem ty154_z : zeroAV Try.prog 154 = [.d (.v (.int .u64 0))] := by kernel_rfl
@[go_sem] theorem ty157_has : hasT Try.prog 157 = true := by kernel_rfl
@[go_sem] theorem ty157_agg : aggT Try.prog 157 = true := by kernel_rfl
@[go_sem] theorem ty157_sz : szT Try.prog 157 = 4 := by kernel_rfl
@[go_sem] theorem ty157_sl : slT Try.prog 157 = false := by kernel_rfl
@[go_sem] theorem ty157_str : strT Try.prog 157 = false := by kernel_rfl
@[go_sem] theorem ty157_zok : zeroOk Try.prog 157 = true := by kernel_rfl
@[go_sem] theorem ty157_by : bytesT Try.prog 157 = 64 := by kernel_rfl
@[go_sem] theorem ty157_ar : arT Try.prog 157 = none := by kernel_rfl
@[go_sem] theorem ty157_pl : placesL Try.prog 157 = some [(0, 3), (3, 1)] := by kernel_rfl
@[go_sem] theorem ty157_f0 : fldT Try.prog 157 0 = some (0, 27) := by kernel_rfl
@[go_sem] theorem ty157_f1 : fldT Try.prog 157 1 = some (3, 22) := by kernel_rfl
@[go_sem] theorem ty157_z : zeroAV Try.prog 157 = [.d (.v (.int .i64 0)), .d (.v (.int .i64 0)), .nil, .nil] := by kernel_rfl
@[go_sem] theorem ty159_has : hasT Try.prog 159 = true := by kernel_rfl
@[go_sem] theorem ty159_agg : aggT Try.prog 159 = false := by kernel_rfl
@[go_sem] theorem ty159_sz : szT Try.prog 159 = 1 := by kernel_rfl
@[go_sem] theorem ty159_sl : slT Try.prog 159 = false := by kernel_rfl
@[go_sem] theorem ty159_str : strT Try.prog 159 = false := by kernel_rfl
@[go_sem] theorem ty159_zok : zeroOk Try.prog 159 = true := by kernel_rfl
@[go_sem] theorem ty159_by : bytesT Try.prog 159 = 8 := by kernel_rfl
@[go_sem] theorem ty159_ar : arT Try.prog 159 = none := by kernel_rfl
@[go_sem] theorem ty159_pl : placesL Try.prog 159 = none := by kernel_rfl
@[go_sem] theorem ty159_z : zeroAV Try.prog 159 = [.d (.v (.nilFunc))] := by kernel_rfl
@[go_sem] theorem ty168_has : hasT Try.prog 168 = true := by kernel_rfl
@[go_sem] theorem ty168_agg : aggT Try.prog 168 = false := by kernel_rfl
@[go_sem] theorem ty168_sz : szT Try.prog 168 = 1 := by kernel_rfl
@[go_sem] theorem ty168_sl : slT Try.prog 168 = false := by kernel_rfl
@[go_sem] theorem ty168_str : strT Try.prog 168 = false := by kernel_rfl
@[go_sem] theorem ty168_zok : zeroOk Try.prog 168 = true := by kernel_rfl
@[go_sem] theorem ty168_by : bytesT Try.prog 168 = 8 := by kernel_rfl
@[go_sem] theorem ty168_ar : arT Try.prog 168 = none := by kernel_rfl
@[go_sem] theorem ty168_pl : placesL Try.prog 168 = none := by kernel_rfl
@[go_sem] theorem ty168_z : zeroAV Try.prog 168 = [.d (.v (.int .i64 0))] := by kernel_rfl
@[go_sem] theorem ty180_has : hasT Try.prog 180 = true := by kernel_rfl
@[go_sem] theorem ty180_agg : aggT Try.prog 180 = false := by kernel_rfl
@[go_sem] theorem ty180_sz : szT Try.prog 180 = 1 := by kernel_rfl
@[go_sem] theorem ty180_sl : slT Try.prog 180 = false := by kernel_rfl
@[go_sem] theorem ty180_str : strT Try.prog 180 = false := by kernel_rfl
@[go_sem] theorem ty180_zok : zeroOk Try.prog 180 = true := by kernel_rfl
@[go_sem] theorem ty180_by : bytesT Try.prog 180 = 8 := by kernel_rfl
@[go_sem] theorem ty180_ar : arT Try.prog 180 = none := by kernel_rfl
@[go_sem] theorem ty180_pl : placesL Try.prog 180 = none := by kernel_rfl
@[go_sem] theorem ty180_z : zeroAV Try.prog 180 = [.d (.v (.int .u64 0))] := by kernel_rfl
@[go_sem] theorem ty184_has : hasT Try.prog 184 = true := by kernel_rfl
@[go_sem] theorem ty184_agg : aggT Try.prog 184 = false := by kernel_rfl
@[go_sem] theorem ty184_sz : szT Try.prog 184 = 1 := by kernel_rfl
@[go_sem] theorem ty184_sl : slT Try.prog 184 = false := by kernel_rfl
@[go_sem] theorem ty184_str : strT Try.prog 184 = false := by kernel_rfl
@[go_sem] theorem ty184_zok : zeroOk Try.prog 184 = true := by kernel_rfl
@[go_sem] theorem ty184_by : bytesT Try.prog 184 = 8 := by kernel_rfl
@[go_sem] theorem ty184_ar : arT Try.prog 184 = none := by kernel_rfl
@[go_sem] theorem ty184_pl : placesL Try.prog 184 = none := by kernel_rfl
@[go_sem] theorem ty184_z : zeroAV Try.prog 184 = [.d (.v (.pointer none))] := by kernel_rfl
theorem enter3 : enterOk Try.prog 3 := by intro a w; go_simp
theorem enter4 : enterOk Try.prog 4 := by intro a w; go_simp
theorem enter5 : enterOk Try.prog 5 := by intro a w; go_simp
theorem enter6 : enterOk Try.prog 6 := by intro a w; go_simp
theorem enter7 : enterOk Try.prog 7 := by intro a w; go_simp
theorem enter8 : enterOk Try.prog 8 := by intro a w; go_simp
theorem enter9 : enterOk Try.prog 9 := by intro a w; go_simp
theorem enter10 : enterOk Try.prog 10 := by intro a w; go_simp
theorem enter11 : enterOk Try.prog 11 := by intro a w; go_simp
theorem enter12 : enterOk Try.prog 12 := by intro a w; go_simp
theorem enter13 : enterOk Try.prog 13 := by intro a w; go_simp
theorem enter14 : enterOk Try.prog 14 := by intro a w; go_simp
theorem enter15 : enterOk Try.prog 15 := by intro a w; go_simp
theorem enter16 : enterOk Try.prog 16 := by intro a w; go_simp
theorem enter17 : enterOk Try.prog 17 := by intro a w; go_simp
theorem enter18 : enterOk Try.prog 18 := by intro a w; go_simp
theorem enter19 : enterOk Try.prog 19 := by intro a w; go_simp
theorem enter20 : enterOk Try.prog 20 := by intro a w; go_simp
theorem enter21 : enterOk Try.prog 21 := by intro a w; go_simp
theorem enter22 : enterOk Try.prog 22 := by intro a w; go_simp
theorem enter23 : enterOk Try.prog 23 := by intro a w; go_simp
theorem enter24 : enterOk Try.prog 24 := by intro a w; go_simp
theorem enter25 : enterOk Try.prog 25 := by intro a w; go_simp
theorem enter26 : enterOk Try.prog 26 := by intro a w; go_simp
theorem enter27 : enterOk Try.prog 27 := by intro a w; go_simp
theorem enter28 : enterOk Try.prog 28 := by intro a w; go_simp
theorem enter29 : enterOk Try.prog 29 := by intro a w; go_simp
theorem enter30 : enterOk Try.prog 30 := by intro a w; go_simp
theorem enter31 : enterOk Try.prog 31 := by intro a w; go_simp
theorem enter32 : enterOk Try.prog 32 := by intro a w; go_simp
theorem enter33 : enterOk Try.prog 33 := by intro a w; go_simp
theorem enter34 : enterOk Try.prog 34 := by intro a w; go_simp
theorem enter35 : enterOk Try.prog 35 := by intro a w; go_simp
theorem enter36 : enterOk Try.prog 36 := by intro a w; go_simp
theorem enter37 : enterOk Try.prog 37 := by intro a w; go_simp
theorem enter38 : enterOk Try.prog 38 := by intro a w; go_simp
theorem enter39 : enterOk Try.prog 39 := by intro a w; go_simp
theorem enter40 : enterOk Try.prog 40 := by intro a w; go_simp
theorem enter41 : enterOk Try.prog 41 := by intro a w; go_simp
theorem enter42 : enterOk Try.prog 42 := by intro a w; go_simp
theorem enter43 : enterOk Try.prog 43 := by intro a w; go_simp
theorem enter44 : enterOk Try.prog 44 := by intro a w; go_simp
theorem enter45 : enterOk Try.prog 45 := by intro a w; go_simp
theorem enter46 : enterOk Try.prog 46 := by intro a w; go_simp
theorem enter47 : enterOk Try.prog 47 := by intro a w; go_simp
theorem enter48 : enterOk Try.prog 48 := by intro a w; go_simp
theorem enter49 : enterOk Try.prog 49 := by intro a w; go_simp
theorem enter50 : enterOk Try.prog 50 := by intro a w; go_simp
theorem enter51 : enterOk Try.prog 51 := by intro a w; go_simp
theorem enter52 : enterOk Try.prog 52 := by intro a w; go_simp
theorem enter53 : enterOk Try.prog 53 := by intro a w; go_simp
theorem enter54 : enterOk Try.prog 54 := by intro a w; go_simp
theorem enter55 : enterOk Try.prog 55 := by intro a w; go_simp
theorem enter56 : enterOk Try.prog 56 := by intro a w; go_simp
theorem enter57 : enterOk Try.prog 57 := by intro a w; go_simp
theorem enter58 : enterOk Try.prog 58 := by intro a w; go_simp
theorem enter59 : enterOk Try.prog 59 := by intro a w; go_simp
theorem enter60 : enterOk Try.prog 60 := by intro a w; go_simp
theorem enter61 : enterOk Try.prog 61 := by intro a w; go_simp
theorem enter62 : enterOk Try.prog 62 := by intro a w; go_simp
theorem enter63 : enterOk Try.prog 63 := by intro a w; go_simp
theorem enter64 : enterOk Try.prog 64 := by intro a w; go_simp
theorem enter65 : enterOk Try.prog 65 := by intro a w; go_simp
theorem enter66 : enterOk Try.prog 66 := by intro a w; go_simp
theorem enter67 : enterOk Try.prog 67 := by intro a w; go_simp
theorem enter68 : enterOk Try.prog 68 := by intro a w; go_simp
theorem enter69 : enterOk Try.prog 69 := by intro a w; go_simp
theorem enter70 : enterOk Try.prog 70 := by intro a w; go_simp
theorem enter71 : enterOk Try.prog 71 := by intro a w; go_simp
theorem enter72 : enterOk Try.prog 72 := by intro a w; go_simp
theorem enter73 : enterOk Try.prog 73 := by intro a w; go_simp
theorem enter74 : enterOk Try.prog 74 := by intro a w; go_simp
theorem enter75 : enterOk Try.prog 75 := by intro a w; go_simp
theorem enter76 : enterOk Try.prog 76 := by intro a w; go_simp
theorem enter77 : enterOk Try.prog 77 := by intro a w; go_simp
theorem enter78 : enterOk Try.prog 78 := by intro a w; go_simp
theorem enter79 : enterOk Try.prog 79 := by intro a w; go_simp
theorem enter80 : enterOk Try.prog 80 := by intro a w; go_simp
theorem enter81 : enterOk Try.prog 81 := by intro a w; go_simp
theorem enter82 : enterOk Try.prog 82 := by intro a w; go_simp
theorem enter83 : enterOk Try.prog 83 := by intro a w; go_simp
theorem enter84 : enterOk Try.prog 84 := by intro a w; go_simp
theorem enter85 : enterOk Try.prog 85 := by intro a w; go_simp
theorem enter86 : enterOk Try.prog 86 := by intro a w; go_simp
theorem enter87 : enterOk Try.prog 87 := by intro a w; go_simp
theorem enter88 : enterOk Try.prog 88 := by intro a w; go_simp
theorem enter89 : enterOk Try.prog 89 := by intro a w; go_simp
theorem enter90 : enterOk Try.prog 90 := by intro a w; go_simp
theorem enter91 : enterOk Try.prog 91 := by intro a w; go_simp
theorem enter92 : enterOk Try.prog 92 := by intro a w; go_simp
theorem enter93 : enterOk Try.prog 93 := by intro a w; go_simp
theorem enter94 : enterOk Try.prog 94 := by intro a w; go_simp
theorem enter95 : enterOk Try.prog 95 := by intro a w; go_simp
theorem enter96 : enterOk Try.prog 96 := by intro a w; go_simp
theorem enter97 : enterOk Try.prog 97 := by intro a w; go_simp
theorem enter98 : enterOk Try.prog 98 := by intro a w; go_simp
theorem enter99 : enterOk Try.prog 99 := by intro a w; go_simp
theorem enter100 : enterOk Try.prog 100 := by intro a w; go_simp
theorem enter101 : enterOk Try.prog 101 := by intro a w; go_simp
theorem enter102 : enterOk Try.prog 102 := by intro a w; go_simp
theorem enter103 : enterOk Try.prog 103 := by intro a w; go_simp
theorem enter104 : enterOk Try.prog 104 := by intro a w; go_simp
theorem enter105 : enterOk Try.prog 105 := by intro a w; go_simp
theorem enter106 : enterOk Try.prog 106 := by intro a w; go_simp
theorem enter107 : enterOk Try.prog 107 := by intro a w; go_simp
theorem enter108 : enterOk Try.prog 108 := by intro a w; go_simp
theorem enter109 : enterOk Try.prog 109 := by intro a w; go_simp
theorem enter110 : enterOk Try.prog 110 := by intro a w; go_simp
theorem enter111 : enterOk Try.prog 111 := by intro a w; go_simp
theorem enter112 : enterOk Try.prog 112 := by intro a w; go_simp
theorem enter113 : enterOk Try.prog 113 := by intro a w; go_simp
theorem enter114 : enterOk Try.prog 114 := by intro a w; go_simp
theorem enter115 : enterOk Try.prog 115 := by intro a w; go_simp
theorem enter116 : enterOk Try.prog 116 := by intro a w; go_simp
theorem enter117 : enterOk Try.prog 117 := by intro a w; go_simp
theorem enter118 : enterOk Try.prog 118 := by intro a w; go_simp
theorem enter119 : enterOk Try.prog 119 := by intro a w; go_simp
theorem enter120 : enterOk Try.prog 120 := by intro a w; go_simp
theorem enter121 : enterOk Try.prog 121 := by intro a w; go_simp
theorem enter122 : enterOk Try.prog 122 := by intro a w; go_simp
theorem enter123 : enterOk Try.prog 123 := by intro a w; go_simp
theorem enter124 : enterOk Try.prog 124 := by intro a w; go_simp
theorem enter125 : enterOk Try.prog 125 := by intro a w; go_simp
theorem enter126 : enterOk Try.prog 126 := by intro a w; go_simp
theorem enter127 : enterOk Try.prog 127 := by intro a w; go_simp
theorem enter128 : enterOk Try.prog 128 := by intro a w; go_simp
theorem enter129 : enterOk Try.prog 129 := by intro a w; go_simp
theorem enter130 : enterOk Try.prog 130 := by intro a w; go_simp
theorem enter132 : enterOk Try.prog 132 := by intro a w; go_simp
theorem enter133 : enterOk Try.prog 133 := by intro a w; go_simp
theorem enter134 : enterOk Try.prog 134 := by intro a w; go_simp
theorem enter135 : enterOk Try.prog 135 := by intro a w; go_simp
theorem enter136 : enterOk Try.prog 136 := by intro a w; go_simp
theorem enter137 : enterOk Try.prog 137 := by intro a w; go_simp
theorem enter138 : enterOk Try.prog 138 := by intro a w; go_simp
theorem enter139 : enterOk Try.prog 139 := by intro a w; go_simp
theorem enter140 : enterOk Try.prog 140 := by intro a w; go_simp
theorem enter141 : enterOk Try.prog 141 := by intro a w; go_simp
theorem enter142 : enterOk Try.prog 142 := by intro a w; go_simp
theorem enter143 : enterOk Try.prog 143 := by intro a w; go_simp
theorem enter144 : enterOk Try.prog 144 := by intro a w; go_simp
theorem enter145 : enterOk Try.prog 145 := by intro a w; go_simp
theorem enter146 : enterOk Try.prog 146 := by intro a w; go_simp
theorem enter147 : enterOk Try.prog 147 := by intro a w; go_simp
theorem enter148 : enterOk Try.prog 148 := by intro a w; go_simp
theorem enter150 : enterOk Try.prog 150 := by intro a w; go_simp
theorem enter151 : enterOk Try.prog 151 := by intro a w; go_simp
theorem enter154 : enterOk Try.prog 154 := by intro a w; go_simp
theorem enter155 : enterOk Try.prog 155 := by intro a w; go_simp
theorem enter156 : enterOk Try.prog 156 := by intro a w; go_simp
theorem enter158 : enterOk Try.prog 158 := by intro a w; go_simp
theorem enter159 : enterOk Try.prog 159 := by intro a w; go_simp
theorem enter160 : enterOk Try.prog 160 := by intro a w; go_simp
theorem enter161 : enterOk Try.prog 161 := by intro a w; go_simp
theorem enter163 : enterOk Try.prog 163 := by intro a w; go_simp
theorem enter164 : enterOk Try.prog 164 := by intro a w; go_simp
theorem enter166 : enterOk Try.prog 166 := by intro a w; go_simp
theorem mixed : Try.prog.follows .mixedOrders = true := by kernel_rfl
end Go.Proofs.Ytmeekpinkfpnhaa

namespace Go.Proofs.Ytmeekpinkfpnhaa

/-- A term: its variable's number, its function's number, its arguments. -/
inductive Tm where
  | mk (v f : Int) (us : List Tm)

def Tm.v : Tm → Int | .mk v _ _ => v
def Tm.f : Tm → Int | .mk _ f _ => f
def Tm.us : Tm → List Tm | .mk _ _ us => us
theorem Tm.eta : ∀ t : Tm, Tm.mk t.v t.f t.us = t | .mk _ _ _ => rfl

theorem Tm.ind {P : Tm → Prop} (h : ∀ t, (∀ u ∈ t.us, P u) → P t) : ∀ t, P t := by
  intro t
  refine Tm.rec (motive_1 := P) (motive_2 := fun us => ∀ u ∈ us, P u) ?_ ?_ ?_ t
  · intro v f us ih; exact h _ ih
  · intro u hu; cases hu
  · intro t ts h1 h2 u hu
    cases hu with
    | head => exact h1
    | tail _ hu => exact h2 u hu

/-- Depth-first size; the measure of inductions. -/
def Tm.size : Tm → Nat
  | .mk _ _ us => 1 + sizes us
where sizes : List Tm → Nat
  | [] => 0
  | t :: ts => t.size + sizes ts

theorem getD_at {α : Type} {l : List α} {i : Nat} (h : i < l.length) (d : α) : l.getD i d = l[i] := by
  rw [List.getD_eq_getElem?_getD, List.getElem?_eq_getElem h]; rfl

/-! ### term.Count, superposeref.SizeOf -/
mutual
def count : Tm → Int → Int
  | .mk _ _ us, most => countL us 1 most
def countL : List Tm → Int → Int → Int
  | [], n, _ => n
  | x :: xs, n, most => if n > most then n else countL xs (n + count x (most - n)) most
end
theorem count_eq (t : Tm) (most : Int) : count t most = countL t.us 1 most := by cases t; rw [count]; rfl
theorem countL_stop {us : List Tm} {n most : Int} (h : n > most) : countL us n most = n := by
  cases us with
  | nil => rw [countL]
  | cons x xs => rw [countL, if_pos h]
theorem countL_go {us : List Tm} {k : Nat} (hk : k < us.length) {n most : Int} (h : n ≤ most) :
    countL (us.drop k) n most = countL (us.drop (k + 1)) (n + count us[k] (most - n)) most := by
  rw [List.drop_eq_getElem_cons hk, countL, if_neg (by omega)]
theorem countL_end {us : List Tm} {n most : Int} : countL (us.drop us.length) n most = n := by
  rw [List.drop_length, countL]

mutual
theorem count_le : ∀ (t : Tm) (most : Int), 0 ≤ most → 1 ≤ count t most ∧ count t most ≤ most + 1
  | .mk v f us, most, h => by unfold count; exact countL_le us 1 most (by omega) (by omega)
theorem countL_le : ∀ (ts : List Tm) (n most : Int), 1 ≤ n → n ≤ most + 1 → 1 ≤ countL ts n most ∧ countL ts n most ≤ most + 1
  | [], n, most, h1, h2 => by unfold countL; omega
  | x :: xs, n, most, h1, h2 => by
    unfold countL
    split
    · omega
    · have := count_le x (most - n) (by omega)
      exact countL_le xs _ most (by omega) (by omega)
end

/-! ### term.form, superposeref.CheckTerm -/
def formOne (g : List Int) (v f : Int) (n : Nat) : Int :=
  if v ≠ 0 then
    if v < 1 ∨ v > 1000 then 3
    else if n > 0 ∨ f ≠ 0 then 1
    else 0
  else if f < 0 ∨ f ≥ g.length then 5
  else if (n : Int) ≠ g.getD f.toNat 0 then 1
  else 0
mutual
def form (g : List Int) : Tm → Int
  | .mk v f us => if formL g us ≠ 0 then formL g us else formOne g v f us.length
def formL (g : List Int) : List Tm → Int
  | [] => 0
  | x :: xs => if form g x ≠ 0 then form g x else formL g xs
end
theorem form_eq (g : List Int) (t : Tm) : form g t = if formL g t.us ≠ 0 then formL g t.us else formOne g t.v t.f t.us.length := by
  cases t; rw [form]; rfl
def own (g : List Int) (t : Tm) : Int := if count t 120 > 120 then 2 else form g t

/-! ### term.Signature -/
def sigOk (g : List Int) : Int := if g.length > 12 then 2 else if g.any (fun n => n < 0 || n > 3) then 3 else 0
def ownL (g : List Int) : List Tm → Int
  | [] => 0
  | x :: xs => if own g x ≠ 0 then own g x else ownL g xs
/-- term.All, superposeref.CheckTerms -/
def allOk (g : List Int) (l : List Tm) : Int := if sigOk g ≠ 0 then sigOk g else ownL g l

/-! ### term.Same, superposeref.SameTerm -/
mutual
def same : Tm → Tm → Bool
  | .mk v f us, .mk v' f' us' => v == v' && f == f' && sameL us us'
def sameL : List Tm → List Tm → Bool
  | [], [] => true
  | x :: xs, y :: ys => same x y && sameL xs ys
  | _, _ => false
end
theorem same_eq (t u : Tm) : same t u = (t.v == u.v && t.f == u.f && sameL t.us u.us) := by cases t; cases u; rw [same]; rfl
mutual
theorem same_iff : ∀ a b : Tm, same a b = true ↔ a = b
  | .mk v f us, .mk v' f' us' => by
    rw [same, Bool.and_eq_true, Bool.and_eq_true, beq_iff_eq, beq_iff_eq, sameL_iff us us']
    constructor
    · rintro ⟨⟨rfl, rfl⟩, rfl⟩; rfl
    · intro h; cases h; exact ⟨⟨rfl, rfl⟩, rfl⟩
theorem sameL_iff : ∀ a b : List Tm, sameL a b = true ↔ a = b
  | [], [] => by simp [sameL]
  | [], _ :: _ => by simp [sameL]
  | _ :: _, [] => by simp [sameL]
  | x :: xs, y :: ys => by
    rw [sameL, Bool.and_eq_true, same_iff x y, sameL_iff xs ys]
    constructor
    · rintro ⟨rfl, rfl⟩; rfl
    · intro h; cases h; exact ⟨rfl, rfl⟩
end

/-- The first thing that is wrong with one of these, each by itself. -/
def formAll (g : List Int) : List Tm → Int
  | [] => 0
  | x :: xs => if formOne g x.v x.f x.us.length ≠ 0 then formOne g x.v x.f x.us.length else formAll g xs
theorem formAll_append (g : List Int) (a b : List Tm) : formAll g (a ++ b) = if formAll g a ≠ 0 then formAll g a else formAll g b := by
  induction a with
  | nil => simp [formAll]
  | cons x xs ih =>
    simp only [List.cons_append, formAll, ih]
    by_cases h : formOne g x.v x.f x.us.length ≠ 0
    · simp [h]
    · simp only [ne_eq, Decidable.not_not] at h; simp [h]
theorem formAll_go {g : List Int} {l : List Tm} {k : Nat} (hk : k < l.length) (h : formOne g l[k].v l[k].f l[k].us.length = 0) : formAll g (l.drop k) = formAll g (l.drop (k + 1)) := by
  rw [List.drop_eq_getElem_cons hk, formAll, if_neg (by simp [h])]
theorem formAll_stop {g : List Int} {l : List Tm} {k : Nat} (hk : k < l.length) (h : formOne g l[k].v l[k].f l[k].us.length ≠ 0) : formAll g (l.drop k) = formOne g l[k].v l[k].f l[k].us.length := by
  rw [List.drop_eq_getElem_cons hk, formAll, if_pos h]

theorem same_rfl (t : Tm) : same t t = true := (same_iff t t).2 rfl
theorem sameL_take {a b : List Tm} {i : Nat} (hi : i < a.length) (hi' : i < b.length) (h : sameL (a.take i) (b.take i) = true) (hs : same a[i] b[i] = true) : sameL (a.take (i + 1)) (b.take (i + 1)) = true := by
  rw [sameL_iff] at h ⊢
  rw [same_iff] at hs
  rw [List.take_succ_eq_append_getElem hi, List.take_succ_eq_append_getElem hi', h, hs]
theorem sameL_not {a b : List Tm} {i : Nat} (hi : i < a.length) (hi' : i < b.length) (hs : same a[i] b[i] = false) : sameL a b = false := by
  rw [← Bool.not_eq_true, sameL_iff]
  rintro rfl
  rw [same_rfl] at hs
  cases hs
theorem sameL_len {a b : List Tm} (h : a.length ≠ b.length) : sameL a b = false := by
  rw [← Bool.not_eq_true, sameL_iff]
  rintro rfl
  exact h rfl

/-! ### superposeref.PartsOf, order.parts -/
mutual
def parts : Tm → List Tm
  | .mk v f us => partsL us ++ [.mk v f us]
def partsL : List Tm → List Tm
  | [] => []
  | x :: xs => parts x ++ partsL xs
end
theorem parts_eq (t : Tm) : parts t = partsL t.us ++ [t] := by cases t; rw [parts]; rfl
theorem partsL_append (a b : List Tm) : partsL (a ++ b) = partsL a ++ partsL b := by
  induction a with
  | nil => simp [partsL]
  | cons x xs ih => simp [partsL, ih]
theorem partsL_take {us : List Tm} {k : Nat} (hk : k < us.length) : partsL (us.take (k + 1)) = partsL (us.take k) ++ parts us[k] := by
  rw [List.take_succ_eq_append_getElem hk, partsL_append]; simp [partsL]
theorem partsL_le {us : List Tm} (k : Nat) : (partsL (us.take k)).length ≤ (partsL us).length := by
  rw [← List.take_append_drop k us, partsL_append]
  rw [List.take_append_drop, List.length_append]; omega
theorem partsL_at {us : List Tm} {k : Nat} (hk : k < us.length) : (partsL (us.take k)).length + (parts us[k]).length ≤ (partsL us).length := by
  have := partsL_le (us := us) (k + 1)
  rw [partsL_take hk, List.length_append] at this
  exact this
mutual
theorem formAll_parts (g : List Int) : ∀ t : Tm, formAll g (parts t) = form g t
  | .mk v f us => by
    rw [parts, formAll_append, formAll_partsL g us, form]
    simp only [formAll, Tm.v, Tm.f, Tm.us]
    by_cases h : formL g us ≠ 0
    · simp [h]
    · simp only [ne_eq, Decidable.not_not] at h
      simp only [h, ne_eq, not_true, if_false]
      by_cases h2 : formOne g v f us.length = 0 <;> simp [h2]
theorem formAll_partsL (g : List Int) : ∀ us : List Tm, formAll g (partsL us) = formL g us
  | [] => rfl
  | x :: xs => by
    rw [partsL, formAll_append, formAll_parts g x, formAll_partsL g xs, formL]
end
mutual
theorem count_parts : ∀ (t : Tm) (most : Int), 0 ≤ most → count t most ≤ most → ((parts t).length : Int) = count t most
  | .mk v f us, most, h, h2 => by
    rw [parts, List.length_append]
    rw [count] at h2 ⊢
    have := countL_parts us 1 most (by omega) h2
    simp
    omega
theorem countL_parts : ∀ (us : List Tm) (n most : Int), 0 ≤ n → countL us n most ≤ most → n + (partsL us).length = countL us n most
  | [], n, most, h0, h => by simp [partsL, countL]
  | x :: xs, n, most, h0, h => by
    rw [countL] at h ⊢
    by_cases hn : n > most
    · rw [if_pos hn] at h; omega
    · rw [if_neg hn] at h ⊢
      have h1 := count_le x (most - n) (by omega)
      rw [partsL, List.length_append]
      by_cases hx : count x (most - n) ≤ most - n
      · have := count_parts x (most - n) (by omega) hx
        have := countL_parts xs (n + count x (most - n)) most (by omega) h
        simp
        omega
      · rw [countL_stop (by omega)] at h
        omega
end

/-! ### order.parts: each part with the numbers of its arguments -/
mutual
def pn : Tm → Nat → List (Tm × List Int)
  | .mk v f us, n => pnL us n ++ [(.mk v f us, idxs us n)]
def pnL : List Tm → Nat → List (Tm × List Int)
  | [], _ => []
  | x :: xs, n => pn x n ++ pnL xs (n + (parts x).length)
def idxs : List Tm → Nat → List Int
  | [], _ => []
  | x :: xs, n => ((n : Int) + (parts x).length - 1) :: idxs xs (n + (parts x).length)
end
theorem pn_eq (t : Tm) (n : Nat) : pn t n = pnL t.us n ++ [(t, idxs t.us n)] := by cases t; rw [pn]; rfl
mutual
theorem pn_fst : ∀ (t : Tm) (n : Nat), (pn t n).map (·.1) = parts t
  | .mk v f us, n => by rw [pn, List.map_append, pnL_fst us n, parts]; rfl
theorem pnL_fst : ∀ (us : List Tm) (n : Nat), (pnL us n).map (·.1) = partsL us
  | [], _ => rfl
  | x :: xs, n => by rw [pnL, List.map_append, pn_fst x n, pnL_fst xs, partsL]
end
theorem pn_len (t : Tm) (n : Nat) : (pn t n).length = (parts t).length := by rw [← pn_fst t n, List.length_map]
theorem pnL_len (us : List Tm) (n : Nat) : (pnL us n).length = (partsL us).length := by rw [← pnL_fst us n, List.length_map]
theorem pnL_append (a b : List Tm) (n : Nat) : pnL (a ++ b) n = pnL a n ++ pnL b (n + (partsL a).length) := by
  induction a generalizing n with
  | nil => simp [pnL, partsL]
  | cons x xs ih => simp [pnL, partsL, ih, Nat.add_assoc]
theorem idxs_append (a b : List Tm) (n : Nat) : idxs (a ++ b) n = idxs a n ++ idxs b (n + (partsL a).length) := by
  induction a generalizing n with
  | nil => simp [idxs, partsL]
  | cons x xs ih => simp [idxs, partsL, ih, Nat.add_assoc]
theorem idxs_len (us : List Tm) (n : Nat) : (idxs us n).length = us.length := by
  induction us generalizing n with
  | nil => rfl
  | cons x xs ih => simp [idxs, ih]
theorem pnL_take {us : List Tm} {k : Nat} (hk : k < us.length) (n : Nat) : pnL (us.take (k + 1)) n = pnL (us.take k) n ++ pn us[k] (n + (pnL (us.take k) n).length) := by
  rw [List.take_succ_eq_append_getElem hk, pnL_append, pnL_len]; simp [pnL]
theorem idxs_take {us : List Tm} {k : Nat} (hk : k < us.length) (n : Nat) : idxs (us.take (k + 1)) n = idxs (us.take k) n ++ [((n + (pnL (us.take (k + 1)) n).length : Nat) : Int) - 1] := by
  rw [pnL_len, partsL_take hk, List.length_append, List.take_succ_eq_append_getElem hk, idxs_append]
  simp [idxs]
  omega
end Go.Proofs.Ytmeekpinkfpnhaa

namespace Go.Proofs.Ytmeekpinkfpnhaa
open Go.RowKit

abbrev iD (n : Int) : DV := .v (.int .i64 n)
abbrev bD (b : Bool) : DV := .v (.bool b)
abbrev iA (n : Int) : AV := .d (.v (.int .i64 n))
abbrev bA (b : Bool) : AV := .d (.v (.bool b))

theorem Tm.size_eq (t : Tm) : t.size = 1 + Tm.size.sizes t.us := by cases t; rfl
theorem Tm.sizes_at : ∀ (ts : List Tm) (i : Nat) (h : i < ts.length), ts[i].size ≤ Tm.size.sizes ts
  | t :: ts, 0, _ => by simp only [Tm.size.sizes, List.getElem_cons_zero]; omega
  | t :: ts, i + 1, h => by simp only [Tm.size.sizes, List.getElem_cons_succ]; have := Tm.sizes_at ts i (by simpa using h); omega
theorem Tm.sizes_len : ∀ (ts : List Tm), ts.length ≤ Tm.size.sizes ts
  | [] => Nat.le_refl _
  | t :: ts => by simp only [Tm.size.sizes, List.length_cons]; have := Tm.sizes_len ts; have := t.size_eq; omega
theorem Tm.size_at {t : Tm} {i : Nat} (h : i < t.us.length) : t.us[i].size < t.size := by have := Tm.sizes_at t.us i h; rw [t.size_eq]; omega
theorem Tm.len_lt (t : Tm) : t.us.length < t.size := by have := Tm.sizes_len t.us; rw [t.size_eq]; omega
/-- Terms as data; worked out by its equation alone. -/
def tmDV (t : Tm) : DV := .st [.v (.int .i64 t.v), .v (.int .i64 t.f), .sl (t.us.attach.map fun u => tmDV u.1)]
termination_by t.size
decreasing_by
  obtain ⟨i, hi, e⟩ := List.mem_iff_getElem.1 u.2
  rw [← e]; exact Tm.size_at hi
theorem tmDV_eq (t : Tm) : tmDV t = .st [.v (.int .i64 t.v), .v (.int .i64 t.f), .sl (t.us.map tmDV)] := by
  rw [tmDV]
  simp only [List.map_subtype, List.unattach_attach]
@[go_sem] theorem tmDV_cells (t : Tm) : (tmDV t).cells = [.v (.int .i64 t.v), .v (.int .i64 t.f), .sl (t.us.map tmDV)] := by rw [tmDV_eq]; rfl
@[go_sem] theorem tmDV_fold (t : Tm) : DV.st [.v (.int .i64 t.v), .v (.int .i64 t.f), .sl (t.us.map tmDV)] = tmDV t := (tmDV_eq t).symm
theorem nth_map {α : Type} (g : α → DV) {l : List α} {k : Nat} (hk : k < l.length) (d : DV) : (l.map g).getD k d = g l[k] := by
  rw [List.getD_eq_getElem?_getD, List.getElem?_map, List.getElem?_eq_getElem hk]; rfl
@[go_sem] theorem allD_nil : allD [] = some [] := rfl
@[go_sem] theorem allD_d (x : DV) (l : List AV) : allD (.d x :: l) = (allD l).map (x :: ·) := by
  rw [allD]; cases allD l <;> rfl
@[go_sem] theorem allD_n (l : List AV) : allD (.nil :: l) = (allD l).map (.sl [] :: ·) := by
  rw [allD]; cases allD l <;> rfl
@[go_sem] theorem allD_own (n : Nm) (xs : List DV) (l : List AV) : allD (.own n xs :: l) = (allD l).map (.sl xs :: ·) := by
  rw [allD]; cases allD l <;> rfl
@[go_sem] theorem map_append' {α β : Type} (f : α → β) (l r : List α) : l.map f ++ r.map f = (l ++ r).map f := List.map_append.symm
theorem tmL_sz (l : List Tm) : ∀ y ∈ l.map tmDV, y.cells.length = 3 := fun y hy => by
  obtain ⟨t, _, rfl⟩ := List.mem_map.1 hy
  rw [tmDV_cells]; rfl
/-- A list that may be appended to becomes a longer one. -/
def ownEff (e : TypeId) (n : Nm) (xs ys : List DV) : Eff := ⟨.own n ys, [(n, some (.perm e xs.length))], [(n, some (.perm e ys.length))]⟩
/-- A new list that may be appended to. -/
def newEff (e : TypeId) (n' : Nm) (ys : List DV) : Eff := ⟨.own n' ys, [(n', none)], [(n', some (.perm e ys.length))]⟩
theorem ret_own {P : Program} {fn : Func} {n : Nm} {e : TypeId} {xs ys : List DV} {h0 : Heap} {k : Nat} {s : St} (h1 : resOkL P fn.ntmps s fn.results.toList) (h2 : resA P s fn.results.toList = .own n ys) (hn : n.1 < k)
    (hp : s.h n = some (.perm e ys.length)) (hfr : ∀ x : Nm, x.1 < k → x ≠ n → s.h x = h0 x) : RetOK P fn (ownEff e n xs ys) h0 k s := by
  refine ⟨h1, none, ?_, fun x hx _ => ?_, fun y hy => (by cases hy), ?_⟩
  · rw [h2]; exact .refl fun m hm => by simp [ownEff, AV.names] at hm; subst hm; exact hn
  · by_cases hx2 : x = n
    · subst hx2; simp [ownEff, Eff.ap, upd, hp]
    · simp [ownEff, Eff.ap, upd, hx2, hfr x hx hx2]
  · intro x hx ob ho y hy
    simp only [ownEff, List.mem_cons, List.not_mem_nil, or_false] at hx
    subst hx
    cases ho; cases hy
theorem ret_new {P : Program} {fn : Func} {n' q : Nm} {e : TypeId} {ys : List DV} {h0 : Heap} {k : Nat} {s : St} (h1 : resOkL P fn.ntmps s fn.results.toList) (h2 : resA P s fn.results.toList = .own q ys) (hq : k ≤ q.1) (hn' : n'.1 < k) (h0' : h0 n' = none)
    (hp : s.h q = some (.perm e ys.length)) (hfr : Fr k h0 s.h) : RetOK P fn (newEff e n' ys) h0 k s := by
  have e1 : (newEff e n' ys).ap h0 n' = some (.perm e ys.length) := by simp [newEff, Eff.ap, upd]
  refine ⟨h1, some (n', q), ?_, fun x hx hxn => ?_, ?_, ?_⟩
  · rw [h2]; exact .own rfl
  · have hxn := hxn _ rfl
    simp only at hxn
    simp [newEff, Eff.ap, upd, hxn, hfr x hx]
  · rintro y hy
    cases hy
    exact ⟨hn', hq, h0', ⟨_, by simp only [newEff]; exact List.mem_cons_self .., rfl⟩, _, e1, hp, rfl⟩
  · intro x hx ob ho y hy
    simp only [newEff, List.mem_cons, List.not_mem_nil, or_false] at hx
    subst hx
    cases ho; cases hy
/-- A name that nobody has seen is forgotten. -/
theorem HRel.hide {P : Program} {w0 w : World} {h h' : Heap} {k : Nat} {m : Mem} {β : Bl} {n : Nm} (H : HRel P w0 h' k m β w) (hh : ∀ x, x ≠ n → h' x = h x) (hn : h n = none) (hnm : ∀ x ob, h x = some ob → n ∉ ob.names) : HRel P w0 h k m (fun x => if x = n then none else β x) w := by
  have hne : ∀ x ob, h x = some ob → x ≠ n := fun x ob ho e => by subst e; rw [hn] at ho; cases ho
  have hb : ∀ x p, (if x = n then none else β x) = some p → x ≠ n ∧ β x = some p := fun x p hx => by
    split at hx
    · cases hx
    · exact ⟨by assumption, hx⟩
  refine ⟨H.ext, H.mem, fun x p hx => H.dom x p (hb x p hx).2, fun x p ob hx ho hr => ?_, fun x ob ho => ?_, fun x y p q ob ob' h1 h2 h3 h4 h5 h6 => ?_⟩
  · obtain ⟨h1, h2⟩ := hb x p hx
    exact H.new x p ob h2 ((hh x h1).trans ho) hr
  · obtain ⟨p, hp, hob⟩ := H.obj x ob ((hh x (hne x ob ho)).trans ho)
    refine ⟨p, by show (if x = n then none else β x) = _; rw [if_neg (hne x ob ho)]; exact hp, ?_⟩
    have hnn := hnm x ob ho
    cases ob with
    | cells ty cs =>
      obtain ⟨hv, c, c1, c2, c3, c4⟩ := hob
      refine ⟨hv, c, c1, c2, fun i u a hi ha => ⟨(c3 i u a hi ha).1, (c3 i u a hi ha).2.names fun y hy => ?_⟩, c4⟩
      have : y ≠ n := fun e => hnn (by subst e; exact names_mem ha hy)
      show (if y = n then none else β y) = _
      rw [if_neg this]
    | perm ty len => exact hob
    | map es => exact hob
  · exact H.inj x y p q ob ob' ((hh x (hne x ob h1)).trans h1) ((hh y (hne y ob' h2)).trans h2) (hb x p h3).2 (hb y q h4).2 h5 h6
theorem HRel.obk {P : Program} {w0 w : World} {h : Heap} {k : Nat} {m : Mem} {β : Bl} (H : HRel P w0 h k m β w) {n : Nm} {ob : Ob} (hn : h n = some ob) : ∀ y ∈ ob.names, ∃ p, β y = some p := by
  obtain ⟨q, hq, hob⟩ := H.obj n ob hn
  cases ob with
  | cells ty cs =>
    obtain ⟨_, c, c1, c2, c3, c4⟩ := hob
    intro y hy
    obtain ⟨i, a, hi, ha⟩ := mem_names hy
    have hlt := (List.getElem?_eq_some_iff.1 hi).1
    exact (c3 i _ a (Array.getElem?_eq_getElem (by omega)) hi).2.known y ha
  | _ => intro y hy; simp [Ob.names] at hy
/-- A new list, taken as data. -/
theorem Tri.data {P : Program} {f : FuncId} {args : List AV} {e : TypeId} {ys : List DV} (h : ∀ n', Tri P f args (newEff e n' ys)) : Tri P f args (pure' (.d (.sl ys))) := by
  intro w0 hh k m β w cargs H _ _ hsz hargs
  have hb : β (k, 0) = none := by
    cases hb : β (k, 0) with
    | none => rfl
    | some p => have := H.dom _ _ hb; simp at this
  have hn : hh (k, 0) = none := by
    cases hn : hh (k, 0) with
    | none => rfl
    | some ob => obtain ⟨p, hp, _⟩ := H.obj _ _ hn; rw [hb] at hp; cases hp
  refine (h (k, 0) w0 hh (k + 1) m β w cargs (H.tick (Nat.le_succ _)) (fun x hx => ?_) (fun x hx => ?_) hsz hargs).mono ?_
  · simp only [newEff, List.mem_cons, List.not_mem_nil, or_false] at hx; subst hx; exact hn
  · simp only [newEff, List.mem_cons, List.not_mem_nil, or_false] at hx; subst hx; exact ⟨Nat.lt_succ_self _, fun _ => hb⟩
  rintro en w' ⟨v, m', β', rfl, g1, g2, g3, g4, g5⟩
  have g3 : ∀ n, n ≠ (k, 0) → β n = none → β' n = none := fun n hne => g3 n fun x hx => by
    simp only [newEff, List.mem_cons, List.not_mem_nil, or_false] at hx; subst hx; exact Ne.symm hne
  have hap : ∀ n, n ≠ (k, 0) → (newEff e (k, 0) ys).ap hh n = hh n := fun n hne => by simp [newEff, Eff.ap, upd, hne]
  have H' := g4.hide hap hn fun x ob ho hx => by
    obtain ⟨p, hp⟩ := H.obk ho _ hx
    rw [hb] at hp; cases hp
  refine ⟨v, m', _, rfl, g1, fun n p hp => ?_, fun n _ h0 => ?_, ⟨H'.ext, H'.mem, fun n p hn => ?_, H'.new, H'.obj, H'.inj⟩, ?_⟩
  · obtain ⟨p', q1, q2⟩ := g2 n p hp
    refine ⟨p', ?_, q2⟩
    show (if n = (k, 0) then none else β' n) = _
    rw [if_neg (fun e => by subst e; rw [hb] at hp; cases hp)]; exact q1
  · show (if n = (k, 0) then none else β' n) = _
    split
    · rfl
    · rename_i hne; exact g3 n hne h0
  · have hne : n ≠ (k, 0) := fun e => by subst e; simp at hn
    have hn : β' n = some p := by simpa [hne] using hn
    cases h0 : β n with
    | none => rw [g3 n hne h0] at hn; cases hn
    | some q => exact H.dom n q h0
  · simp only [newEff] at g5
    cases g5 with
    | own hd _ _ _ _ => exact .d hd
/-- A part of the code, by its path. -/
def codeAt : List Bool → Code → Option Code
  | [], c => some c
  | false :: p, .seq a _ => codeAt p a
  | true :: p, .seq _ b => codeAt p b
  | false :: p, .cond _ a _ => codeAt p a
  | true :: p, .cond _ _ b => codeAt p b
  | _ :: p, .block _ a => codeAt p a
  | _ :: p, .loop a => codeAt p a
  | _, _ => none
def bodyAt (f : Func) (p : List Bool) : Option Code := f.body.bind (codeAt p)
/-- How great a term may be. -/
abbrev Tm.fits (t : Tm) : Prop := t.size ≤ 4000000
theorem Tm.fits_at {t : Tm} (ht : t.fits) {i : Nat} (h : i < t.us.length) : t.us[i].fits := by have := Tm.size_at h; unfold Tm.fits at *; omega
theorem Tm.fits_len {t : Tm} (ht : t.fits) : t.us.length ≤ 4000000 := by have := t.len_lt; unfold Tm.fits at *; omega
end Go.Proofs.Ytmeekpinkfpnhaa

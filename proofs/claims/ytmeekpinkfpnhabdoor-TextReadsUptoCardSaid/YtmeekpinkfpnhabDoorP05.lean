/- Facts on types and functions of the program, written by a program of ours. -/
import Derived.Test.YtmeekpinkfpnhabDoorP04
import Derived.Test.YtmeekpinkfpnhabDoorProg
set_option linter.all false
namespace Go.Proofs.YtmeekpinkfpnhabDoor
open Go.RowKit
theorem objCells_congr {h h' : Heap} {n : Nm} (e : h' n = h n) : objCells h' n = objCells h n ∧ objTy h' n = objTy h n ∧ (isCells h n → isCells h' n) := by
 unfold objCells objTy isCells; rw [e]; exact ⟨rfl, rfl, id⟩
section
variable {P : Program}
theorem append_h {nm : Nm} {t t' : TypeId} {s x : AV} {h h' : Heap} (hh : ∀ y ∈ (effAppend P nm t s x h).rd, h' y.1 = h y.1) : effAppend P nm t s x h' = effAppend P nm t s x h ∧ (okAppend P t t' s x h → okAppend P t t' s x h') := by
 have hm : ∀ m off len, x = .arr m off len → h' m = h m := fun m off len e => by
  subst e
  refine hh (m, h m) ?_
  unfold effAppend
  split <;> simp [srcRd]
 have hx : newsOf h' x = newsOf h x ∧ (∀ sz, okSrc sz h x → okSrc sz h' x) := by
  cases x with
  | arr m off len =>
   obtain ⟨e1, _, e3⟩ := objCells_congr (hm m off len rfl)
   exact ⟨by simp only [newsOf, e1], fun sz ⟨k1, k2, k3⟩ => ⟨e3 k1, k2, by rw [e1]; exact k3⟩⟩
  | _ => exact ⟨rfl, fun _ h => h⟩
 have hs : ∀ n, okDest P (elT P t) h n s → okDest P (elT P t) h' n s := by
  intro n hd
  cases s with
  | own nm' xs =>
   have e : h' nm' = h nm' := hh (nm', some (.perm (elT P t) xs.length)) (by simp [effAppend])
   exact ⟨by rw [e]; exact hd.1, hd.2⟩
  | gro nm' len =>
   have e : h' nm' = h nm' := hh (nm', h nm') (by simp [effAppend])
   exact ⟨by rw [e]; exact hd.1, hd.2⟩
  | _ => exact hd
 have hg : ∀ nm' len, s = .gro nm' len → h' nm' = h nm' := fun nm' len e => by
  subst e; exact hh (nm', h nm') (by simp [effAppend])
 refine ⟨?_, fun hok => ?_⟩
 ·have hr : srcRd h' x = srcRd h x := by
   cases x with
   | arr m off len => simp only [srcRd, hm m off len rfl]
   | _ => rfl
  unfold effAppend
  rw [hx.1, hr]
  cases s with
  | gro nm' len => simp only [groCs, hg nm' len rfl]
  | _ => rfl
 ·obtain ⟨k1, k2, k3, k4, k5, k6, k7⟩ := hok
  exact ⟨k1, k2, k3, k4, k5, hx.2 _ k6, by rw [hx.1]; exact hs _ k7⟩
theorem builtin_h {nm : Nm} {b : Builtin} {tl : List TypeId} {az : List AV} {h h' : Heap} (hh : ∀ y ∈ (effBuiltin P nm h b tl az).rd, h' y.1 = h y.1) : effBuiltin P nm h' b tl az = effBuiltin P nm h b tl az ∧ (okBuiltin P h b tl az → okBuiltin P h' b tl az) := by
 by_cases hb : b = .append ∧ ∃ s x t ts, az = [s, x] ∧ tl = t :: ts
 ·obtain ⟨rfl, s, x, t, ts, rfl, rfl⟩ := hb
  have := append_h (P := P) (t' := ts.headD 0) (h' := h') hh
  refine ⟨this.1, fun hok => ?_⟩
  match ts, hok with
  | [t'], hok => exact this.2 hok
 ·have e1 : effBuiltin P nm h' b tl az = effBuiltin P nm h b tl az := by
   unfold effBuiltin
   split <;> first | rfl | (exfalso; exact hb ⟨rfl, _, _, _, _, rfl, rfl⟩)
  refine ⟨e1, ?_⟩
  unfold okBuiltin
  split <;> first | exact id | (exfalso; exact hb ⟨rfl, _, _, _, _, rfl, rfl⟩)
theorem effOf_h {nm : Nm} {op : Op} {r : Operand → AV} {h h' : Heap} (hh : ∀ x ∈ (effOf P nm op r h).rd, h' x.1 = h x.1) : effOf P nm op r h' = effOf P nm op r h ∧ (okOf P op r h → okOf P op r h') := by
 cases op with
 | load t a =>
  simp only [effOf, okOf] at hh ⊢
  generalize r a = A at *
  cases A with
  | ptr n off =>
   have e : h' n = h n := hh (n, h n) (by simp [effLoad])
   obtain ⟨e1, e2, e3⟩ := objCells_congr e
   exact ⟨by simp only [effLoad, e1, e], fun ⟨k1, k2, k3⟩ => ⟨k1, e3 k2, by rw [e1]; exact k3⟩⟩
  | _ => exact ⟨rfl, id⟩
 | store t a x =>
  simp only [effOf, okOf] at hh ⊢
  generalize r a = A at *
  cases A with
  | ptr n off =>
   have e : h' n = h n := hh (n, h n) (by simp [effStore])
   obtain ⟨e1, e2, e3⟩ := objCells_congr e
   exact ⟨by simp only [effStore, e1, e2, e], fun ⟨k1, k2, k3, k4⟩ => ⟨k1, k2, e3 k3, by rw [e1]; exact k4⟩⟩
  | _ => exact ⟨rfl, id⟩
 | lookup t a k c =>
  simp only [effOf, okOf] at hh ⊢
  generalize r a = A at *
  cases A with
  | map n =>
   have e : h' n = h n := hh (n, h n) (by simp [effLook])
   exact ⟨by simp only [effLook, askM, mapEs, e], fun ⟨k1, k2, k3, k4, k5⟩ => ⟨k1, k2, k3, k4, by simpa only [isMapO, e] using k5⟩⟩
  | _ => exact ⟨rfl, id⟩
 | mapUpdate t a k x =>
  simp only [effOf, okOf] at hh ⊢
  generalize r a = A at *
  cases A with
  | map n =>
   have e : h' n = h n := hh (n, h n) (by simp [effPut])
   exact ⟨by simp only [effPut, mapEs, e], fun ⟨k1, k2, k3, k4⟩ => ⟨k1, k2, k3, by simpa only [isMapO, e] using k4⟩⟩
  | _ => exact ⟨rfl, id⟩
 | insert t a k x =>
  simp only [effOf, okOf] at hh ⊢
  generalize r a = A at *
  cases A with
  | map n =>
   have e : h' n = h n := hh (n, h n) (by simp [effPut])
   exact ⟨by simp only [effPut, mapEs, e], fun ⟨k1, k2, k3, k4⟩ => ⟨k1, k2, k3, by simpa only [isMapO, e] using k4⟩⟩
  | _ => exact ⟨rfl, id⟩
 | makeMap t q => cases q <;> exact ⟨rfl, id⟩
 | entry a =>
  simp only [effOf, okOf] at hh ⊢
  generalize r a = A at *
  cases A with
  | ptr n off =>
   cases off with
   | zero =>
    have e : h' n = h n := hh (n, h n) (by unfold effEntry; simp only; split <;> simp)
    cases hn : h n with
    | none => rw [hn] at e; exact ⟨by simp only [effEntry, hn, e], by simp only [okEntry, hn, e]; exact id⟩
    | some ob =>
     rw [hn] at e
     cases ob with
     | iter src m seen =>
      have e' : h' src = h src := hh (src, h src) (by simp [effEntry, hn])
      exact ⟨by simp only [effEntry, mapEs, e, e', hn], by simp only [okEntry, hn, e, isMapO, mapEs, e']; exact id⟩
     | _ => exact ⟨by simp only [effEntry, hn, e], by simp only [okEntry, hn, e]; exact id⟩
   | succ _ => exact ⟨rfl, id⟩
  | _ => exact ⟨rfl, id⟩
 | range t a =>
  simp only [effOf, okOf] at hh ⊢
  generalize r a = A at *
  cases A with
  | map n =>
   have e : h' n = h n := hh (n, h n) (by simp [effRange])
   exact ⟨by simp only [effRange, mapEs, e], fun ⟨k1, k2⟩ => ⟨k1, by simpa only [isMapO, e] using k2⟩⟩
  | _ => exact ⟨rfl, id⟩
 | call c =>
  obtain ⟨callee, args, ats⟩ := c
  cases callee with
  | builtin b =>
   simp only [effOf, okOf] at hh ⊢
   generalize args.toList.map r = az at *
   generalize ats.toList = tl at *
   exact builtin_h hh
  | _ => exact ⟨rfl, id⟩
 | _ => exact ⟨rfl, id⟩
theorem map_congr_mem {ps : Array (Nat × Operand)} {r r' : Operand → AV} (h : ∀ x ∈ ps, r' x.2 = r x.2) : ps.toList.map (fun x => (x.1, r' x.2)) = ps.toList.map (fun x => (x.1, r x.2)) :=
 List.map_congr_left fun x hx => by rw [h x (by simpa using hx)]
theorem effOf_r {nm : Nm} {op : Op} {r r' : Operand → AV} {h : Heap} (hr : ∀ x ∈ op.operands, r' x = r x) : effOf P nm op r' h = effOf P nm op r h ∧ (okOf P op r h → okOf P op r' h) := by
 cases op with
 | build t ps =>
  have := map_congr_mem (r := r) (r' := r') (ps := ps) fun x hx => hr x.2 (by simp [Op.operands]; exact ⟨x.1, by simpa using hx⟩)
  simp only [effOf, okOf, this]; exact ⟨trivial, id⟩
 | buildSlice t n ps =>
  have := map_congr_mem (r := r) (r' := r') (ps := ps) fun x hx => hr x.2 (by simp [Op.operands]; exact ⟨x.1, by simpa using hx⟩)
  simp only [effOf, okOf, this]; exact ⟨trivial, id⟩
 | slice t x lo hi mx =>
  have key : ∀ l : Option Operand, (∀ x, l = some x → r' x = r x) → l.map r' = l.map r := fun l hl => by
   cases l with
   | none => rfl
   | some x => simp [hl x rfl]
  have e1 := hr x (by simp [Op.operands])
  have e2 := key lo fun x hx => hr x (by subst hx; simp [Op.operands])
  have e3 := key hi fun x hx => hr x (by subst hx; simp [Op.operands])
  have e4 := key mx fun x hx => hr x (by subst hx; simp [Op.operands])
  simp only [effOf, okOf, e1, e2, e3, e4]; exact ⟨trivial, id⟩
 | makeFunc f a b =>
  have e1 : a.toList.map r' = a.toList.map r := List.map_congr_left fun x hx => hr x (by simp [Op.operands] at hx ⊢; exact .inl hx)
  have e2 : b.toList.map r' = b.toList.map r := List.map_congr_left fun x hx => hr x (by simp [Op.operands] at hx ⊢; exact .inr hx)
  simp only [effOf, okOf, e1, e2]; exact ⟨trivial, id⟩
 | call c =>
  obtain ⟨callee, args, ats⟩ := c
  cases callee with
  | builtin b =>
   have e1 : args.toList.map r' = args.toList.map r := List.map_congr_left fun x hx => hr x (by simp [Op.operands, Call.operands] at hx ⊢; exact hx)
   simp only [effOf, okOf, e1]; exact ⟨trivial, id⟩
  | _ => exact ⟨rfl, id⟩
 | move x => have e := hr x (by simp [Op.operands]); simp only [effOf, okOf, e]; exact ⟨trivial, id⟩
 | assign x => have e := hr x (by simp [Op.operands]); simp only [effOf, okOf, e]; exact ⟨trivial, id⟩
 | pick c x y =>
  have e1 := hr c (by simp [Op.operands]); have e2 := hr x (by simp [Op.operands]); have e3 := hr y (by simp [Op.operands])
  simp only [effOf, okOf, e1, e2, e3]; exact ⟨trivial, id⟩
 | box e x => have e := hr x (by simp [Op.operands]); simp only [effOf, okOf, e]; exact ⟨trivial, id⟩
 | load t x => have e := hr x (by simp [Op.operands]); simp only [effOf, okOf, e]; exact ⟨trivial, id⟩
 | store t x y => have e1 := hr x (by simp [Op.operands]); have e2 := hr y (by simp [Op.operands]); simp only [effOf, okOf, e1, e2]; exact ⟨trivial, id⟩
 | nilCheck x => have e := hr x (by simp [Op.operands]); simp only [effOf, okOf, e]; exact ⟨trivial, id⟩
 | binOp b t x y t' => have e1 := hr x (by simp [Op.operands]); have e2 := hr y (by simp [Op.operands]); simp only [effOf, okOf, e1, e2]; exact ⟨trivial, id⟩
 | convert t t' x => have e := hr x (by simp [Op.operands]); simp only [effOf, okOf, e]; exact ⟨trivial, id⟩
 | unOp u t x => have e := hr x (by simp [Op.operands]); simp only [effOf, okOf, e]; exact ⟨trivial, id⟩
 | fieldAddr t x f => have e := hr x (by simp [Op.operands]); simp only [effOf, okOf, e]; exact ⟨trivial, id⟩
 | field t x f => have e := hr x (by simp [Op.operands]); simp only [effOf, okOf, e]; exact ⟨trivial, id⟩
 | indexAddr t x y => have e1 := hr x (by simp [Op.operands]); have e2 := hr y (by simp [Op.operands]); simp only [effOf, okOf, e1, e2]; exact ⟨trivial, id⟩
 | index t x y => have e1 := hr x (by simp [Op.operands]); have e2 := hr y (by simp [Op.operands]); simp only [effOf, okOf, e1, e2]; exact ⟨trivial, id⟩
 | makeSlice t x y => have e1 := hr x (by simp [Op.operands]); have e2 := hr y (by simp [Op.operands]); simp only [effOf, okOf, e1, e2]; exact ⟨trivial, id⟩
 | extract x i => have e := hr x (by simp [Op.operands]); simp only [effOf, okOf, e]; exact ⟨trivial, id⟩
 | lookup t x y c => have e1 := hr x (by simp [Op.operands]); have e2 := hr y (by simp [Op.operands]); simp only [effOf, okOf, e1, e2]; exact ⟨trivial, id⟩
 | mapUpdate t x y z => have e1 := hr x (by simp [Op.operands]); have e2 := hr y (by simp [Op.operands]); have e3 := hr z (by simp [Op.operands]); simp only [effOf, okOf, e1, e2, e3]; exact ⟨trivial, id⟩
 | insert t x y z => have e1 := hr x (by simp [Op.operands]); have e2 := hr y (by simp [Op.operands]); have e3 := hr z (by simp [Op.operands]); simp only [effOf, okOf, e1, e2, e3]; exact ⟨trivial, id⟩
 | makeMap t q => cases q <;> exact ⟨rfl, id⟩
 | entry x => have e := hr x (by simp [Op.operands]); simp only [effOf, okOf, e]; exact ⟨trivial, id⟩
 | range t x => have e := hr x (by simp [Op.operands]); simp only [effOf, okOf, e]; exact ⟨trivial, id⟩
 | _ => exact ⟨rfl, id⟩
def Eff.R_ (e : Eff) : List Nm := e.rd.map (·.1)
def Eff.W_ (e : Eff) : List Nm := e.wr.map (·.1)
def Far (r1 w1 r2 w2 : List Nm) : Prop := (∀ x ∈ w1, x ∉ r2 ∧ x ∉ w2) ∧ ∀ x ∈ w2, x ∉ r1
def Eff.far (e f : Eff) : Prop := Far e.R_ e.W_ f.R_ f.W_
theorem fold_far {l : List (Nm × Option Ob)} : ∀ {h : Heap} {n : Nm}, (∀ x ∈ l, x.1 ≠ n) → l.foldl (fun h x => upd h x.1 x.2) h n = h n := by
 induction l with
 | nil => intro h n _; rfl
 | cons x l ih =>
  intro h n hn
  rw [List.foldl_cons, ih fun y hy => hn y (by simp [hy])]
  exact upd_ne _ _ (Ne.symm (hn x (by simp)))
theorem fold_near {l : List (Nm × Option Ob)} : ∀ {h h' : Heap} {n : Nm}, (∃ x ∈ l, x.1 = n) → l.foldl (fun h x => upd h x.1 x.2) h n = l.foldl (fun h x => upd h x.1 x.2) h' n := by
 induction l with
 | nil => rintro h h' n ⟨x, hx, _⟩; cases hx
 | cons x l ih =>
  intro h h' n hn
  rw [List.foldl_cons, List.foldl_cons]
  by_cases hl : ∃ y ∈ l, y.1 = n
  ·exact ih hl
  ·obtain ⟨y, hy, rfl⟩ := hn
   have hy' : y = x := by
    rcases List.mem_cons.1 hy with h | h
    ·exact h
    ·exact absurd ⟨y, h, rfl⟩ hl
   subst hy'
   have hne : ∀ z ∈ l, z.1 ≠ y.1 := fun z hz e => hl ⟨z, hz, e⟩
   rw [fold_far hne, fold_far hne, upd_self, upd_self]
theorem ap_far {e : Eff} {h : Heap} {n : Nm} (hn : n ∉ e.W_) : e.ap h n = h n := fold_far fun x hx e' => hn (by subst e'; exact List.mem_map_of_mem hx)
theorem ap_comm {e f : Eff} (hf : ∀ x ∈ e.W_, x ∉ f.W_) (h : Heap) : e.ap (f.ap h) = f.ap (e.ap h) := by
 funext n
 by_cases h1 : n ∈ e.W_
 ·rw [ap_far (hf n h1)]
  obtain ⟨x, hx, rfl⟩ := List.mem_map.1 h1
  exact fold_near ⟨x, hx, rfl⟩
 ·rw [ap_far h1]
  by_cases h2 : n ∈ f.W_
  ·obtain ⟨x, hx, rfl⟩ := List.mem_map.1 h2
   exact fold_near ⟨x, hx, rfl⟩
  ·rw [ap_far h2, ap_far h2, ap_far h1]
end
def OpD (P : Program) (ops : Array Oper) (tick i : Nat) (o : Oper) (s : St) (e : Eff) : Prop :=
 match o.guard with
 | none => ActOK P tick i o s e
 | some (j, b) => guardOk (gval ops s j) ∧ (guardB b (gval ops s j) = true → ActOK P tick i o s e) ∧ (guardB b (gval ops s j) = false → e = nop)
def anyA (P : Program) (ops : Array Oper) (tick : Nat) (es : Nat → Eff) : Nat → Array Bool → St → (St → Prop) → Prop
 | 0, listed, s, K => Region.ready .any ops listed = [] ∧ K s
 | f + 1, listed, s, K => (Region.ready .any ops listed = [] → K s) ∧ ∀ i ∈ Region.ready .any ops listed, ∀ o, ops[i]? = some o → OpD P ops tick i o s (es i) ∧ anyA P ops tick es f (listed.setIfInBounds i true) (s.step o (es i)) K
section
variable {P : Program} {w0 : GW} {n : Nat} {ops : Array Oper} {tick : Nat} {es : Nat → Eff}
theorem anyA_sound {Q : Exit → Act → World → Prop} {K : St → Prop} (hd : ∀ o ∈ ops, dstOk n o = true) (hop : ∀ o ∈ ops, opOk n o.op = true) (hsz : ops.size < 1000) : ∀ (fuel : Nat) (listed : Array Bool) (s : St) (m : Mem) (β : Bl) (a : Act) (w : World),
  anyA P ops tick es fuel listed s K → listed.size = ops.size → a.tmps.size = n → tick < s.k → HRel P w0 s.h s.k m β w → TRel m β s.t a.tmps → (∀ j, listed.getD (j % 1000) true = false → β (tick, j) = none) →
  (∀ s' m' β' a' w', K s' → a'.tmps.size = n → a'.defers = a.defers → s'.k = s.k → Goes P w0 m β s' m' β' a' w' → (∀ x, x.1 ≠ tick → β x = none → β' x = none) → Q .normal a' w') → wpAny P .any ops Q fuel listed a w
 | 0, listed, s, m, β, a, w, hr, _, hn, _, H, hT, _, hQ => ⟨hr.1, hQ s m β a w hr.2 hn rfl rfl ⟨.rfl' m, .rfl' β, H, hT⟩ fun _ _ h => h⟩
 | fuel + 1, listed, s, m, β, a, w, hr, hls, hn, hk, H, hT, hfr, hQ => by
  refine ⟨fun h0 => hQ s m β a w (hr.1 h0) hn rfl rfl ⟨.rfl' m, .rfl' β, H, hT⟩ fun _ _ h => h, fun i hi => ?_⟩
  obtain ⟨hun, o, ho, _⟩ := mem_ready.1 hi
  have hlt : i < ops.size := (Array.getElem?_eq_some_iff.1 ho).1
  obtain ⟨hD, hrest⟩ := hr.2 i hi o ho
  have hop1 := hop o (Array.mem_of_getElem? ho)
  have next : ∀ v m' β' w', Goes P w0 m β (s.step o (es i)) m' β' (a.put o.dst v) w' → (∀ x, ¬ (x.1 = tick ∧ x.2 % 1000 = i) → β x = none → β' x = none) → wpAny P .any ops Q fuel (listed.setIfInBounds i true) (a.put o.dst v) w' := by
   intro v m' β' w' hg hb
   refine anyA_sound hd hop hsz fuel _ (s.step o (es i)) m' β' (a.put o.dst v) w' hrest (by simpa using hls) (by rw [put_size, hn]) hk hg.heap hg.slots (fun j hj => ?_) ?_
   ·have hne : j % 1000 ≠ i := fun e => by
     subst e
     have hl : j % 1000 < listed.size := by omega
     rw [Array.getD_eq_getD_getElem?, Array.getElem?_setIfInBounds_self_of_lt hl] at hj
     cases hj
    rw [getD_set_ne true (Ne.symm hne)] at hj
    exact hb (tick, j) (fun h => hne h.2) (hfr j hj)
   ·intro s' m'' β'' a' w'' h1 h2 h3 h4 h5 h6
    refine hQ s' m'' β'' a' w'' h1 h2 (h3.trans (put_defers _ _ _)) h4 ⟨hg.mem.trans h5.mem, hg.bl.trans h5.bl, h5.heap, h5.slots⟩ fun x hx h0 => h6 x hx (hb x (fun h => hx h.1) h0)
  have act : ActOK P tick i o s (es i) → o.wp P a w (wpAny P .any ops Q fuel (listed.setIfInBounds i true)) Q := fun h1 =>
   act_sound h1 hop1 hn hk (by omega) H hT (fun j hj => hfr j (by rw [hj]; exact hun)) fun v m' β' w' hg hb => next v m' β' w' hg hb
  unfold wpOp
  simp only [ho]
  unfold OpD at hD
  split at hD
  ·rename_i hg
   rw [if_pos (by simp [Region.wanted, hg])]
   exact .inl (act hD)
  ·rename_i j b hg
   obtain ⟨h1, h2, h3⟩ := hD
   have hy := gval_sound (b := b) hT hn hd h1
   by_cases hb : guardB b (gval ops s j) = true
   ·rw [if_pos (by simp [Region.wanted, hg, hb] at hy ⊢; exact hy)]
    exact .inl (act (h2 hb))
   ·have hb' : guardB b (gval ops s j) = false := by simpa using hb
    rw [if_neg (by simp [Region.wanted, hg, hb'] at hy ⊢; exact hy)]
    have he := h3 hb'
    exact next undef m β w ⟨.rfl' m, .rfl' β, by rw [he]; exact H, step_slots hT (.rfl' m) (.rfl' β) (by rw [he]; exact .un)⟩ fun _ _ h => h
theorem set_comm (t : Nat → AV) {i j : Nat} (hij : i ≠ j) (a b : AV) : set (set t i a) j b = set (set t j b) i a := by
 funext q
 unfold set
 by_cases h1 : q = i
 ·by_cases h2 : q = j
  ·exact absurd (h1.symm.trans h2) hij
  ·simp [h1, hij]
 ·by_cases h2 : q = j <;> simp [h1, h2]
  intro h3; exact absurd (h2 ▸ h3) (fun e => h1 (h2.trans e))
theorem step_comm {oi oj : Oper} {ei ej : Eff} {s : St} (hap : oi.apart ops oj = true) (hf : ei.far ej) : (s.step oi ei).step oj ej = (s.step oj ej).step oi ei := by
 obtain ⟨h1, h2, h3⟩ := Oper.apart_spec hap
 have hh : ej.ap (ei.ap s.h) = ei.ap (ej.ap s.h) := ap_comm (fun x hx hx' => (hf.1 x hx').2 hx) s.h
 unfold St.step
 simp only [hh]
 cases hi : oi.dst with
 | none => rfl
 | some d =>
  cases hj : oj.dst with
  | none => rfl
  | some d' =>
   simp only
   rw [set_comm s.t (fun e => h2 d hi (by rw [hj, e])) ei.val ej.val]
theorem ev_step {oi : Oper} {ei : Eff} {s : St} {x : Operand} (h : ∀ d, oi.dst = some d → x ≠ .tmp d) : (s.step oi ei).ev x = s.ev x := by
 cases x with
 | tmp t =>
  unfold St.ev St.step
  cases hi : oi.dst with
  | none => rfl
  | some d =>
   have : t ≠ d := fun e => h d hi (by rw [e])
   simp [set, this]
 | _ => rfl
theorem act_step {i j : Nat} {oi oj : Oper} {ei ej : Eff} {s : St} (hd : ∀ d, oi.dst = some d → d ∉ oj.looksAt ops) (hw : ∀ x ∈ ei.W_, x ∉ ej.R_ ∧ x ∉ ej.W_) (back : Bool) :
  (if back then ActOK P tick j oj (s.step oi ei) ej → ActOK P tick j oj s ej else ActOK P tick j oj s ej → ActOK P tick j oj (s.step oi ei) ej) := by
 have hev : ∀ x ∈ oj.op.operands, (s.step oi ei).ev x = s.ev x := fun x hx => ev_step fun d hdd hxd => hd d hdd (by
  subst hxd
  exact List.mem_append_left _ (List.mem_filterMap.2 ⟨.tmp d, by simpa using hx, rfl⟩))
 have hh : ∀ x, x ∈ ej.R_ ∨ x ∈ ej.W_ → (s.step oi ei).h x = s.h x := fun x hx => ap_far fun hx' => by
  rcases hx with h | h
  ·exact (hw x hx').1 h
  ·exact (hw x hx').2 h
 have callEq : ∀ f args ats, oj.op = .call ⟨.value f, args, ats⟩ → (CallOK P tick j f args (s.step oi ei) ej ↔ CallOK P tick j f args s ej) := by
  intro f args ats ho
  have e1 : (s.step oi ei).ev f = s.ev f := hev f (by rw [ho]; simp [Op.operands, Call.operands])
  have e2 : args.toList.map (s.step oi ei).ev = args.toList.map s.ev := List.map_congr_left fun x hx => hev x (by rw [ho]; simp [Op.operands, Call.operands] at hx ⊢; exact .inr hx)
  unfold CallOK
  rw [e1, e2]
  have e3 : (∀ x ∈ ej.rd, (s.step oi ei).h x.1 = x.2) ↔ (∀ x ∈ ej.rd, s.h x.1 = x.2) :=
   ⟨fun h x hx => (hh x.1 (.inl (List.mem_map_of_mem hx))).symm.trans (h x hx), fun h x hx => (hh x.1 (.inl (List.mem_map_of_mem hx))).trans (h x hx)⟩
  have e4 : (∀ x ∈ ej.wr, (s.step oi ei).h x.1 ≠ none ∨ x.1.1 = tick ∧ x.1.2 % 1000 = j) ↔ (∀ x ∈ ej.wr, s.h x.1 ≠ none ∨ x.1.1 = tick ∧ x.1.2 % 1000 = j) :=
   ⟨fun h x hx => by have := h x hx; rwa [hh x.1 (.inr (List.mem_map_of_mem hx))] at this, fun h x hx => by rw [hh x.1 (.inr (List.mem_map_of_mem hx))]; exact h x hx⟩
  rw [e3, e4]
 cases back
 ·simp only [Bool.false_eq_true, if_false]
  unfold ActOK
  split
  ·rename_i f args ats ho; exact (callEq f args ats ho).2
  ·rintro ⟨h1, h2⟩
   obtain ⟨k1, k2⟩ := effOf_r (P := P) (nm := (tick, j)) (h := s.h) hev
   obtain ⟨k3, k4⟩ := effOf_h (P := P) (nm := (tick, j)) (op := oj.op) (r := (s.step oi ei).ev) (h := s.h) (h' := (s.step oi ei).h) (fun x hx => by
    rw [k1, ← h2] at hx
    exact hh x.1 (.inl (List.mem_map_of_mem hx)))
   exact ⟨k4 (k2 h1), by rw [k3, k1]; exact h2⟩
 ·simp only [if_true]
  unfold ActOK
  split
  ·rename_i f args ats ho; exact (callEq f args ats ho).1
  ·rintro ⟨h1, h2⟩
   obtain ⟨k1, k2⟩ := effOf_r (P := P) (nm := (tick, j)) (op := oj.op) (r := (s.step oi ei).ev) (r' := s.ev) (h := (s.step oi ei).h) (fun x hx => (hev x hx).symm)
   obtain ⟨k3, k4⟩ := effOf_h (P := P) (nm := (tick, j)) (op := oj.op) (r := s.ev) (h := (s.step oi ei).h) (h' := s.h) (fun x hx => by
    rw [k1, ← h2] at hx
    exact (hh x.1 (.inl (List.mem_map_of_mem hx))).symm)
   exact ⟨k4 (k2 h1), by rw [k3, k1]; exact h2⟩
theorem opD_step {i j : Nat} {oi oj : Oper} {ei ej : Eff} {s : St} (hd : ∀ d, oi.dst = some d → d ∉ oj.looksAt ops) (hw : ∀ x ∈ ei.W_, x ∉ ej.R_ ∧ x ∉ ej.W_) :
  (OpD P ops tick j oj (s.step oi ei) ej → OpD P ops tick j oj s ej) ∧ (OpD P ops tick j oj s ej → OpD P ops tick j oj (s.step oi ei) ej) := by
 have a1 := act_step (P := P) (tick := tick) (i := i) (j := j) (s := s) hd hw true
 have a2 := act_step (P := P) (tick := tick) (i := i) (j := j) (s := s) hd hw false
 simp only [if_true, Bool.false_eq_true, if_false] at a1 a2
 have hg : ∀ g b, oj.guard = some (g, b) → gval ops (s.step oi ei) g = gval ops s g := by
  intro g b ho
  unfold gval gslot
  cases ht : (ops[g]?).bind (·.dst) with
  | none => rfl
  | some t =>
   have := ev_step (oi := oi) (ei := ei) (s := s) (x := .tmp t) (fun d hdd e => hd d hdd (by cases e; simp [Oper.looksAt, ho, ht]))
   exact this
 unfold OpD
 split
 ·exact ⟨a1, a2⟩
 ·rename_i g b ho
  rw [hg g b ho]
  exact ⟨fun ⟨h1, h2, h3⟩ => ⟨h1, fun h => a1 (h2 h), h3⟩, fun ⟨h1, h2, h3⟩ => ⟨h1, fun h => a2 (h2 h), h3⟩⟩
def Closd (ops : Array Oper) (listed : Array Bool) : Prop := ∀ j oj, ops[j]? = some oj → listed.getD j false = true → ∀ e ∈ oj.after, Region.binds .any e = true → listed.getD e.on false = true
theorem getD_set_up {l : Array Bool} {i j : Nat} (h : l.getD j false = true) : (l.setIfInBounds i true).getD j false = true := by
 by_cases hij : i = j
 ·subst hij
  rcases Nat.lt_or_ge i l.size with h' | h'
  ·rw [Array.getD_eq_getD_getElem?, Array.getElem?_setIfInBounds_self_of_lt h']; rfl
  ·rw [Array.getD_eq_getD_getElem?, Array.getElem?_eq_none h'] at h; cases h
 ·rw [getD_set_ne false hij]; exact h
theorem Closd.set {listed : Array Bool} (h : Closd ops listed) {i : Nat} (hr : i ∈ Region.ready .any ops listed) : Closd ops (listed.setIfInBounds i true) := by
 intro j oj hoj hl e he hb
 obtain ⟨_, oi, hoi, hall⟩ := mem_ready.1 hr
 by_cases hij : i = j
 ·subst hij
  rw [hoi] at hoj; cases hoj
  exact getD_set_up (hall e he hb)
 ·rw [getD_set_ne false hij] at hl
  exact getD_set_up (h j oj hoj hl e he hb)
def edgeB (o : Oper) (i : Nat) : Bool := o.after.toList.any fun e => Region.binds .any e && e.on == i
def edge2 (ops : Array Oper) (o : Oper) (i : Nat) : Bool := o.after.toList.any fun e => Region.binds .any e && ((ops[e.on]?).map (edgeB · i)).getD false
def edge3 (ops : Array Oper) (o : Oper) (i : Nat) : Bool := o.after.toList.any fun e => Region.binds .any e && ((ops[e.on]?).map (edge2 ops · i)).getD false
def edge23 (ops : Array Oper) (o : Oper) (i : Nat) : Bool := edge2 ops o i || edge3 ops o i
section
variable {ops : Array Oper} {listed : Array Bool} {o : Oper} {i : Nat}
theorem edgeB_listed (hall : ∀ e ∈ o.after, Region.binds .any e = true → listed.getD e.on false = true) (h : edgeB o i = true) : listed.getD i false = true := by
 unfold edgeB at h
 rw [List.any_eq_true] at h
 obtain ⟨e, hem, hb⟩ := h
 simp only [Bool.and_eq_true, beq_iff_eq] at hb
 rw [← hb.2]; exact hall e (by simpa using hem) hb.1
theorem edge2_listed (hcl : Closd ops listed) {o : Oper} (hall : ∀ e ∈ o.after, Region.binds .any e = true → listed.getD e.on false = true) (h : edge2 ops o i = true) : listed.getD i false = true := by
 unfold edge2 at h
 rw [List.any_eq_true] at h
 obtain ⟨e, hem, hb⟩ := h
 simp only [Bool.and_eq_true] at hb
 obtain ⟨hb, hb2⟩ := hb
 cases hoc : ops[e.on]? with
 | none => rw [hoc] at hb2; cases hb2
 | some oc =>
  rw [hoc] at hb2
  exact edgeB_listed (hcl e.on oc hoc (hall e (by simpa using hem) hb)) hb2
theorem edge3_listed (hcl : Closd ops listed) {o : Oper} (hall : ∀ e ∈ o.after, Region.binds .any e = true → listed.getD e.on false = true) (h : edge3 ops o i = true) : listed.getD i false = true := by
 unfold edge3 at h
 rw [List.any_eq_true] at h
 obtain ⟨e, hem, hb⟩ := h
 simp only [Bool.and_eq_true] at hb
 obtain ⟨hb, hb2⟩ := hb
 cases hoc : ops[e.on]? with
 | none => rw [hoc] at hb2; cases hb2
 | some oc =>
  rw [hoc] at hb2
  exact edge2_listed hcl (hcl e.on oc hoc (hall e (by simpa using hem) hb)) hb2
theorem edge23_listed (hcl : Closd ops listed) {o : Oper} (hall : ∀ e ∈ o.after, Region.binds .any e = true → listed.getD e.on false = true) (h : edge23 ops o i = true) : listed.getD i false = true := by
 unfold edge23 at h
 rw [Bool.or_eq_true] at h
 rcases h with h | h
 ·exact edge2_listed hcl hall h
 ·exact edge3_listed hcl hall h
end
theorem anyA_first {K : St → Prop} {i : Nat} {oi : Oper} (hi : ops[i]? = some oi) : ∀ (fuel : Nat) (listed : Array Bool) (s : St),
  (∀ j oj, ops[j]? = some oj → j ≠ i → listed.getD j true = false → (∀ e ∈ oj.after, Region.binds .any e = true → e.on ≠ i) → (edge23 ops oj i = true → False) → oi.apart ops oj = true ∧ (es i).far (es j)) →
  Closd ops listed → i ∈ Region.ready .any ops listed → OpD P ops tick i oi s (es i) → anyA P ops tick es fuel (listed.setIfInBounds i true) (s.step oi (es i)) K → anyA P ops tick es (fuel + 1) listed s K := by
 intro fuel
 induction fuel with
 | zero =>
  intro listed s _ _ hr hD H
  refine ⟨fun h => (by rw [h] at hr; cases hr), fun j hj oj hoj => ?_⟩
  by_cases hji : j = i
  ·subst hji
   rw [hi] at hoj; cases hoj
   exact ⟨hD, H⟩
  ·have := ready_mono hj hji
   rw [H.1] at this
   cases this
 | succ fuel ih =>
  intro listed s hfree hcl hr hD H
  refine ⟨fun h => (by rw [h] at hr; cases hr), fun j hj oj hoj => ?_⟩
  by_cases hji : j = i
  ·subst hji
   rw [hi] at hoj; cases hoj
   exact ⟨hD, H⟩
  ·obtain ⟨h1, h2⟩ := H.2 j (ready_mono hj hji) oj hoj
   obtain ⟨hjun, oj', hoj', hall⟩ := mem_ready.1 hj
   rw [hoj] at hoj'; cases hoj'
   have hnot : ∀ e ∈ oj.after, Region.binds .any e = true → e.on ≠ i := fun e he hb heq => by
    have h1 := hall e he hb
    have h0 := (mem_ready.1 hr).1
    rw [heq] at h1
    rcases Nat.lt_or_ge i listed.size with h' | h'
    ·simp [h'] at h0 h1; rw [h0] at h1; cases h1
    ·simp [Array.getElem?_eq_none h'] at h1
   have hnot2 : edge23 ops oj i = true → False := fun h => by
    have h1 := edge23_listed hcl hall h
    have h0 := (mem_ready.1 hr).1
    rcases Nat.lt_or_ge i listed.size with h' | h'
    ·simp [h'] at h0 h1; rw [h0] at h1; cases h1
    ·simp [Array.getElem?_eq_none h'] at h1
   obtain ⟨hap, hfar⟩ := hfree j oj hoj hji hjun hnot hnot2
   obtain ⟨p1, p2, p3⟩ := Oper.apart_spec hap
   have hDj := (opD_step (P := P) (tick := tick) (i := i) (j := j) (s := s) p1 hfar.1).1 h1
   have hDi := (opD_step (P := P) (ops := ops) (tick := tick) (i := j) (j := i) (oi := oj) (oj := oi) (ei := es j) (ej := es i) (s := s) p3 (fun x hx => ⟨hfar.2 x hx, fun hx' => (hfar.1 x hx').2 hx⟩)).2 hD
   have hfree' : ∀ k ok, ops[k]? = some ok → k ≠ i → (listed.setIfInBounds j true).getD k true = false → (∀ e ∈ ok.after, Region.binds .any e = true → e.on ≠ i) → (edge23 ops ok i = true → False) → oi.apart ops ok = true ∧ (es i).far (es k) := fun k ok hk hki hun hno hno2 => by
    refine hfree k ok hk hki ?_ hno hno2
    by_cases hjk : j = k
    ·subst hjk; exact hjun
    ·rw [getD_set_ne true hjk] at hun; exact hun
   refine ⟨hDj, ih (listed.setIfInBounds j true) (s.step oj (es j)) hfree' (hcl.set hj) (ready_mono hr (Ne.symm hji)) hDi ?_⟩
   rw [Array.setIfInBounds_comm _ _ hji, ← step_comm hap hfar]
   exact h2
end
abbrev Acc := List (Nat × List Nm × List Nm)
def chk (ops : Array Oper) (o : Oper) : Acc → List Nm → List Nm → Prop
 | [], _, _ => True
 | x :: acc, r, w => (if edgeB o x.1 then True else if edge2 ops o x.1 then True else Far x.2.1 x.2.2 r w ∨ edge3 ops o x.1 = true) ∧ chk ops o acc r w
def addF (acc : Acc) (i : Nat) : List Nm → List Nm → Acc
 | [], [] => acc
 | r, w => (i, r, w) :: acc
def runE (P : Program) (ops : Array Oper) (tick : Nat) : List Oper → Nat → St → Acc → (St → Prop) → Prop
 | [], _, s, _, K => K s
 | o :: rest, i, s, acc, K =>
  match o.guard with
  | none => ∃ e, ActOK P tick i o s e ∧ chk ops o acc e.R_ e.W_ ∧ runE P ops tick rest (i + 1) (s.step o e) (addF acc i e.R_ e.W_) K
  | some (j, b) => guardOk (gval ops s j) ∧ (guardB b (gval ops s j) = true → ∃ e, ActOK P tick i o s e ∧ chk ops o acc e.R_ e.W_ ∧ runE P ops tick rest (i + 1) (s.step o e) (addF acc i e.R_ e.W_) K) ∧
    (guardB b (gval ops s j) = false → runE P ops tick rest (i + 1) (s.step o nop) acc K)
def CallD (P : Program) (ops : Array Oper) (tick i : Nat) (o : Oper) (rest : List Oper) (s : St) (acc : Acc) (K : St → Prop) : Prop :=
 ∃ e, ActOK P tick i o s e ∧ chk ops o acc e.R_ e.W_ ∧ runE P ops tick rest (i + 1) (s.step o e) (addF acc i e.R_ e.W_) K
def runD (P : Program) (ops : Array Oper) (tick : Nat) : List Oper → Nat → St → Acc → (St → Prop) → Prop
 | [], _, s, _, K => K s
 | o :: rest, i, s, acc, K =>
  match o.guard with
  | none => if isCallV o.op then CallD P ops tick i o rest s acc K
    else okOf P o.op s.ev s.h ∧ chk ops o acc (effOf P (tick, i) o.op s.ev s.h).R_ (effOf P (tick, i) o.op s.ev s.h).W_ ∧
     runD P ops tick rest (i + 1) (s.step o (effOf P (tick, i) o.op s.ev s.h)) (addF acc i (effOf P (tick, i) o.op s.ev s.h).R_ (effOf P (tick, i) o.op s.ev s.h).W_) K
  | some (j, b) => guardOk (gval ops s j) ∧
    if guardB b (gval ops s j) = true then (if isCallV o.op then CallD P ops tick i o rest s acc K
     else okOf P o.op s.ev s.h ∧ chk ops o acc (effOf P (tick, i) o.op s.ev s.h).R_ (effOf P (tick, i) o.op s.ev s.h).W_ ∧
      runD P ops tick rest (i + 1) (s.step o (effOf P (tick, i) o.op s.ev s.h)) (addF acc i (effOf P (tick, i) o.op s.ev s.h).R_ (effOf P (tick, i) o.op s.ev s.h).W_) K)
    else runD P ops tick rest (i + 1) (s.step o nop) acc K
def TextOK (P : Program) (ops : Array Oper) (tick : Nat) (es : Nat → Eff) : List Oper → Nat → St → (St → Prop) → Prop
 | [], _, s, K => K s
 | o :: rest, i, s, K => OpD P ops tick i o s (es i) ∧ TextOK P ops tick es rest (i + 1) (s.step o (es i)) K
section
variable {P : Program} {w0 : GW} {n : Nat} {ops : Array Oper} {tick : Nat} {K : St → Prop}
theorem runE_of : ∀ (l : List Oper) (i : Nat) (s : St) (acc : Acc), runD P ops tick l i s acc K → runE P ops tick l i s acc K
 | [], _, _, _, h => h
 | o :: rest, i, s, acc, h => by
  have act : (if isCallV o.op then CallD P ops tick i o rest s acc K else okOf P o.op s.ev s.h ∧ chk ops o acc (effOf P (tick, i) o.op s.ev s.h).R_ (effOf P (tick, i) o.op s.ev s.h).W_ ∧
     runD P ops tick rest (i + 1) (s.step o (effOf P (tick, i) o.op s.ev s.h)) (addF acc i (effOf P (tick, i) o.op s.ev s.h).R_ (effOf P (tick, i) o.op s.ev s.h).W_) K) →
    ∃ e, ActOK P tick i o s e ∧ chk ops o acc e.R_ e.W_ ∧ runE P ops tick rest (i + 1) (s.step o e) (addF acc i e.R_ e.W_) K := by
   intro hh
   by_cases hc : isCallV o.op = true
   ·rw [if_pos hc] at hh; exact hh
   ·rw [if_neg hc] at hh
    refine ⟨_, ?_, hh.2.1, runE_of rest _ _ _ hh.2.2⟩
    unfold ActOK
    split
    ·rename_i heq; rw [heq] at hc; simp [isCallV] at hc
    ·exact ⟨hh.1, rfl⟩
  unfold runE
  rw [runD] at h
  split at h
  ·exact act h
  ·rename_i j b _
   refine ⟨h.1, fun hb => act (by have h2 := h.2; rw [if_pos hb] at h2; exact h2), fun hb => runE_of rest _ _ _ (by have h2 := h.2; rw [if_neg (by rw [hb]; decide)] at h2; exact h2)⟩
theorem TextOK.congr {es es' : Nat → Eff} : ∀ (l : List Oper) (i : Nat) (s : St), (∀ q, i ≤ q → es' q = es q) → TextOK P ops tick es l i s K → TextOK P ops tick es' l i s K
 | [], _, _, _, h => h
 | o :: rest, i, s, hq, h => by
  have e := hq i (Nat.le_refl _)
  refine ⟨by rw [e]; exact h.1, ?_⟩
  rw [e]
  exact TextOK.congr rest (i + 1) _ (fun q hq' => hq q (by omega)) h.2
theorem chk_all {o : Oper} : ∀ {acc : Acc} {r w : List Nm}, chk ops o acc r w → ∀ x ∈ acc, edgeB o x.1 = true ∨ edge23 ops o x.1 = true ∨ Far x.2.1 x.2.2 r w
 | [], _, _, _, x, hx => by cases hx
 | y :: acc, r, w, h, x, hx => by
  rcases List.mem_cons.1 hx with rfl | hx
  ·have := h.1
   split at this
   ·exact .inl ‹_›
   ·split at this
    ·rename_i h2; exact .inr (.inl (by unfold edge23; rw [h2]; rfl))
    ·rcases this with h3 | h3
     ·exact .inr (.inr h3)
     ·exact .inr (.inl (by unfold edge23; rw [h3, Bool.or_true]))
  ·exact chk_all h.2 x hx
theorem addF_mem {acc : Acc} {i : Nat} {r w : List Nm} : (∀ x ∈ acc, x ∈ addF acc i r w) ∧ ((r = [] ∧ w = []) ∨ (i, r, w) ∈ addF acc i r w) := by
 unfold addF
 split
 ·exact ⟨fun x hx => hx, .inl ⟨rfl, rfl⟩⟩
 ·exact ⟨fun x hx => by simp [hx], .inr (by simp)⟩
theorem runE_es : ∀ (l : List Oper) (i : Nat) (s : St) (acc : Acc), runE P ops tick l i s acc K →
  ∃ es : Nat → Eff, TextOK P ops tick es l i s K ∧ (∀ (a b : Nat) (o : Oper), a < b → l[b]? = some o → edgeB o (i + a) = true ∨ edge23 ops o (i + a) = true ∨ (es (i + a)).far (es (i + b))) ∧
   ∀ x ∈ acc, ∀ (b : Nat) (o : Oper), l[b]? = some o → edgeB o x.1 = true ∨ edge23 ops o x.1 = true ∨ Far x.2.1 x.2.2 (es (i + b)).R_ (es (i + b)).W_
 | [], i, s, acc, h => ⟨fun _ => nop, h, fun a b o _ hb => by simp at hb, fun x _ b o hb => by simp at hb⟩
 | o :: rest, i, s, acc, h => by
  have mk : ∀ (e : Eff) (acc' : Acc), OpD P ops tick i o s e → (∀ x ∈ acc, edgeB o x.1 = true ∨ edge23 ops o x.1 = true ∨ Far x.2.1 x.2.2 e.R_ e.W_) → runE P ops tick rest (i + 1) (s.step o e) acc' K → (∀ x ∈ acc, x ∈ acc') → ((e.R_ = [] ∧ e.W_ = []) ∨ (i, e.R_, e.W_) ∈ acc') →
    ∃ es : Nat → Eff, TextOK P ops tick es (o :: rest) i s K ∧ (∀ (a b : Nat) (o' : Oper), a < b → (o :: rest)[b]? = some o' → edgeB o' (i + a) = true ∨ edge23 ops o' (i + a) = true ∨ (es (i + a)).far (es (i + b))) ∧
     ∀ x ∈ acc, ∀ (b : Nat) (o' : Oper), (o :: rest)[b]? = some o' → edgeB o' x.1 = true ∨ edge23 ops o' x.1 = true ∨ Far x.2.1 x.2.2 (es (i + b)).R_ (es (i + b)).W_ := by
   intro e acc' hD hc hr ha1 ha2
   obtain ⟨es, h1, h2, h3⟩ := runE_es rest (i + 1) (s.step o e) acc' hr
   refine ⟨fun q => if q = i then e else es q, ⟨by simpa using hD, ?_⟩, fun a b o' hab hb => ?_, fun x hx b o' hb => ?_⟩
   ·simp only [if_true]
    exact TextOK.congr rest (i + 1) _ (fun q hq => by rw [if_neg (by omega)]) h1
   ·cases b with
    | zero => omega
    | succ b =>
     simp only [List.getElem?_cons_succ] at hb
     show edgeB o' (i + a) = true ∨ edge23 ops o' (i + a) = true ∨ (if i + a = i then e else es (i + a)).far (if i + (b + 1) = i then e else es (i + (b + 1)))
     rw [if_neg (show ¬ i + (b + 1) = i by omega)]
     cases a with
     | zero =>
      simp only [Nat.add_zero, if_true]
      rcases ha2 with ⟨e1, e2⟩ | hm
      ·right; right
       unfold Eff.far
       rw [e1, e2]
       exact ⟨fun x hx => (by cases hx), fun x _ hx => (by cases hx)⟩
      ·have := h3 _ hm b o' hb
       rw [show i + (b + 1) = i + 1 + b by omega]
       exact this
     | succ a =>
      rw [if_neg (show ¬ i + (a + 1) = i by omega)]
      have := h2 a b o' (by omega) hb
      rw [show i + (a + 1) = i + 1 + a by omega, show i + (b + 1) = i + 1 + b by omega]
      exact this
   ·cases b with
    | zero =>
     simp only [List.getElem?_cons_zero, Option.some.injEq] at hb
     subst hb
     simp only [Nat.add_zero, if_true]
     exact hc x hx
    | succ b =>
     simp only [List.getElem?_cons_succ] at hb
     show edgeB o' x.1 = true ∨ edge23 ops o' x.1 = true ∨ Far x.2.1 x.2.2 (if i + (b + 1) = i then e else es (i + (b + 1))).R_ (if i + (b + 1) = i then e else es (i + (b + 1))).W_
     rw [if_neg (show ¬ i + (b + 1) = i by omega), show i + (b + 1) = i + 1 + b by omega]
     exact h3 x (ha1 x hx) b o' hb
  have full : ∀ e, OpD P ops tick i o s e → chk ops o acc e.R_ e.W_ → runE P ops tick rest (i + 1) (s.step o e) (addF acc i e.R_ e.W_) K → _ := fun e hD hc hr => mk e _ hD (chk_all hc) hr addF_mem.1 addF_mem.2
  unfold runE at h
  split at h
  ·rename_i hg
   obtain ⟨e, h1, h2, h3⟩ := h
   exact full e (by unfold OpD; rw [hg]; exact h1) h2 h3
  ·rename_i j b hg
   obtain ⟨h1, h2, h3⟩ := h
   by_cases hb : guardB b (gval ops s j) = true
   ·obtain ⟨e, k1, k2, k3⟩ := h2 hb
    exact full e (by unfold OpD; rw [hg]; exact ⟨h1, fun _ => k1, fun hb' => by rw [hb] at hb'; cases hb'⟩) k2 k3
   ·have hb' : guardB b (gval ops s j) = false := by simpa using hb
    exact mk nop acc (by unfold OpD; rw [hg]; exact ⟨h1, fun h => absurd h hb, fun _ => rfl⟩) (fun x _ => .inr (.inr ⟨fun y _ => ⟨by simp [Eff.R_, nop], by simp [Eff.W_, nop]⟩, fun y hy => by simp [Eff.W_, nop] at hy⟩)) (h3 hb') (fun x hx => hx) (.inl ⟨rfl, rfl⟩)
theorem anyA_lex {es : Nat → Eff} (hpair : ∀ (a b : Nat) (o : Oper), a < b → ops[b]? = some o → edgeB o a = true ∨ edge23 ops o a = true ∨ (es a).far (es b)) : ∀ (l : List Oper) (k : Nat) (listed : Array Bool) (s : St), (∀ j, l[j]? = ops[k + j]?) → (∀ j, j < k → listed.getD j true = true) →
  Closd ops listed → Region.lexFrom .any ops l.length k listed = true → TextOK P ops tick es l k s K → anyA P ops tick es l.length listed s K
 | [], _, _, s, _, _, _, hB, h => ⟨by simpa [Region.lexFrom] using hB, h⟩
 | o :: l, k, listed, s, hl, hls, hc, hB, h => by
  have h0 : ops[k]? = some o := by simpa using (hl 0).symm
  simp only [List.length_cons, Region.lexFrom, Bool.and_eq_true] at hB
  obtain ⟨⟨hr, hf⟩, hB'⟩ := hB
  have hrk : k ∈ Region.ready .any ops listed := by simpa using hr
  refine anyA_first h0 l.length listed s (fun j oj hoj hne hun hno hno2 => ⟨Region.free_spec h0 hf j oj hoj hne hun hno, ?_⟩) hc hrk h.1 ?_
  ·have hkj : k < j := by
    rcases Nat.lt_trichotomy j k with hlt | he | hgt
    ·rw [hls j hlt] at hun; cases hun
    ·exact absurd he hne
    ·exact hgt
   rcases hpair k j oj hkj hoj with he | he | he
   ·exfalso
    unfold edgeB at he
    rw [List.any_eq_true] at he
    obtain ⟨e, hem, hb⟩ := he
    simp only [Bool.and_eq_true, beq_iff_eq] at hb
    exact hno e (by simpa using hem) hb.1 hb.2
   ·exfalso
    exact hno2 he
   ·exact he
  ·refine anyA_lex hpair l (k + 1) _ _ (fun j => by have := hl (j + 1); simpa [Nat.add_assoc, Nat.add_comm 1 j] using this) (fun j hj => ?_) (hc.set hrk) hB' h.2
   by_cases hjk : k = j
   ·subst hjk
    rcases Nat.lt_or_ge k listed.size with h' | h'
    ·rw [Array.getD_eq_getD_getElem?, Array.getElem?_setIfInBounds_self_of_lt h']; rfl
    ·rw [Array.getD_eq_getD_getElem?, Array.getElem?_eq_none (by simpa using h')]; rfl
   ·rw [getD_set_ne true hjk]; exact hls j (by omega)
theorem awp_draw {Q : Exit → St → Prop} {s : St} {id : Nat} {l : List Oper} (hm : P.follows .mixedOrders = true) (hreg : regOk n l = true) (hB : Region.lexB .any l.toArray = true)
  (h : ∀ K : St → Prop, (∀ s', Q .normal s' → K s') → runD P l.toArray s.k l 0 { s with k := s.k + 1 } [] K) : awp P w0 n (.region id l.toArray true) Q s := by
 have h := h (fun s' => Q .normal s') (fun _ h => h)
 intro m β a w h1 h2 h3
 simp only [regOk, Bool.and_eq_true, List.all_eq_true, decide_eq_true_eq] at hreg
 obtain ⟨hreg, hlen⟩ := hreg
 simp only [Region.lexB, Bool.and_eq_true] at hB
 obtain ⟨es, k1, k2, _⟩ := runE_es l 0 _ [] (runE_of l 0 _ _ h)
 have hA := anyA_lex (ops := l.toArray) (es := es) (fun a b o hab hb => by have := k2 a b o hab (by simpa using hb); simpa using this) l 0 (Array.replicate l.toArray.size false) _ (by simp) (by simp) (fun j oj _ hj => by simp only [Array.getD_eq_getD_getElem?, Array.getElem?_replicate] at hj; split at hj <;> cases hj) (by simpa using hB.2) k1
 refine wp_region_any hm ?_
 have hsz : l.toArray.size = l.length := by simp
 rw [hsz]
 rw [hsz] at hA
 refine anyA_sound (n := n) (fun o ho => (hreg o (by simpa using ho)).2) (fun o ho => (hreg o (by simpa using ho)).1) (by simpa using hlen) l.length _ { s with k := s.k + 1 } m β a _ hA (by simp) h1 (by simp) ((h2.tick (Nat.le_succ _)).draw) h3 (fun j _ => ?_) ?_
 ·cases hb : β (s.k, j) with
  | none => rfl
  | some p => have := h2.dom _ _ hb; simp at this
 ·intro s' m' β' a' w' hK g1 g2 g3 g4 g5
  exact ⟨s', m', β', hK, g1, g2, by rw [g3]; exact Nat.le_succ _, g4, fun x hx => g5 x (by omega)⟩
theorem CallD.pure {s : St} {i : Nat} {dst : Option Tmp} {g : FuncId} {args : Array Operand} {ats : Array TypeId} {ty : TypeId} {pos : String} {after : Array Edge} {guard : Option (Nat × Bool)} {rest : List Oper} {acc : Acc} {az : List AV} {v : AV} (hent : enterOk P g) (ht : Tri P g az (pure' v))
  (hco : coL (args.toList.map s.ev) az) (hk : chk ops ⟨dst, .call ⟨.value (.func g), args, ats⟩, ty, pos, after, guard⟩ acc [] [] ∧ runD P ops tick rest (i + 1) (s.step ⟨dst, .call ⟨.value (.func g), args, ats⟩, ty, pos, after, guard⟩ (pure' v)) acc K) :
  CallD P ops tick i ⟨dst, .call ⟨.value (.func g), args, ats⟩, ty, pos, after, guard⟩ rest s acc K :=
 ⟨pure' v, ⟨g, [], [], az, rfl, hent, hco, by simpa using ht, fun x hx => (by cases hx), fun x hx => (by cases hx)⟩, hk.1, runE_of _ _ _ _ hk.2⟩
end
@[go_sem] theorem ty0_has : hasT Tryd.prog 0 = true := by kernel_rfl
@[go_sem] theorem ty0_agg : aggT Tryd.prog 0 = false := by kernel_rfl
@[go_sem] theorem ty0_sz : szT Tryd.prog 0 = 1 := by kernel_rfl
@[go_sem] theorem ty0_sl : slT Tryd.prog 0 = false := by kernel_rfl
@[go_sem] theorem ty0_str : strT Tryd.prog 0 = false := by kernel_rfl
@[go_sem] theorem ty0_zok : zeroOk Tryd.prog 0 = false := by kernel_rfl
@[go_sem] theorem ty0_by : bytesT Tryd.prog 0 = 0 := by kernel_rfl
@[go_sem] theorem ty0_ar : arT Tryd.prog 0 = none := by kernel_rfl
@[go_sem] theorem ty0_pl : placesL Tryd.prog 0 = none := by kernel_rfl
@[go_sem] theorem ty3_has : hasT Tryd.prog 3 = true := by kernel_rfl
@[go_sem] theorem ty3_agg : aggT Tryd.prog 3 = false := by kernel_rfl
@[go_sem] theorem ty3_sz : szT Tryd.prog 3 = 1 := by kernel_rfl
@[go_sem] theorem ty3_sl : slT Tryd.prog 3 = false := by kernel_rfl
@[go_sem] theorem ty3_str : strT Tryd.prog 3 = false := by kernel_rfl
@[go_sem] theorem ty3_zok : zeroOk Tryd.prog 3 = true := by kernel_rfl
@[go_sem] theorem ty3_by : bytesT Tryd.prog 3 = 8 := by kernel_rfl
@[go_sem] theorem ty3_ar : arT Tryd.prog 3 = none := by kernel_rfl
@[go_sem] theorem ty3_pl : placesL Tryd.prog 3 = none := by kernel_rfl
@[go_sem] theorem ty3_z : zeroAV Tryd.prog 3 = [.d (.v (.int .i64 0))] := by kernel_rfl
@[go_sem] theorem ty4_has : hasT Tryd.prog 4 = true := by kernel_rfl
@[go_sem] theorem ty4_agg : aggT Tryd.prog 4 = false := by kernel_rfl
@[go_sem] theorem ty4_sz : szT Tryd.prog 4 = 1 := by kernel_rfl
@[go_sem] theorem ty4_sl : slT Tryd.prog 4 = false := by kernel_rfl
@[go_sem] theorem ty4_str : strT Tryd.prog 4 = false := by kernel_rfl
@[go_sem] theorem ty4_zok : zeroOk Tryd.prog 4 = true := by kernel_rfl
@[go_sem] theorem ty4_by : bytesT Tryd.prog 4 = 1 := by kernel_rfl
@[go_sem] theorem ty4_ar : arT Tryd.prog 4 = none := by kernel_rfl
@[go_sem] theorem ty4_pl : placesL Tryd.prog 4 = none := by kernel_rfl
@[go_sem] theorem ty4_z : zeroAV Tryd.prog 4 = [.d (.v (.bool false))] := by kernel_rfl
@[go_sem] theorem ty5_has : hasT Tryd.prog 5 = true := by kernel_rfl
@[go_sem] theorem ty5_agg : aggT Tryd.prog 5 = false := by kernel_rfl
@[go_sem] theorem ty5_sz : szT Tryd.prog 5 = 1 := by kernel_rfl
@[go_sem] theorem ty5_sl : slT Tryd.prog 5 = false := by kernel_rfl
@[go_sem] theorem ty5_str : strT Tryd.prog 5 = false := by kernel_rfl
@[go_sem] theorem ty5_zok : zeroOk Tryd.prog 5 = true := by kernel_rfl
@[go_sem] theorem ty5_by : bytesT Tryd.prog 5 = 1 := by kernel_rfl
@[go_sem] theorem ty5_ar : arT Tryd.prog 5 = none := by kernel_rfl
@[go_sem] theorem ty5_pl : placesL Tryd.prog 5 = none := by kernel_rfl
@[go_sem] theorem ty5_z : zeroAV Tryd.prog 5 = [.d (.v (.int .u8 0))] := by kernel_rfl
@[go_sem] theorem ty9_has : hasT Tryd.prog 9 = true := by kernel_rfl
@[go_sem] theorem ty9_agg : aggT Tryd.prog 9 = false := by kernel_rfl
@[go_sem] theorem ty9_sz : szT Tryd.prog 9 = 1 := by kernel_rfl
@[go_sem] theorem ty9_sl : slT Tryd.prog 9 = false := by kernel_rfl
@[go_sem] theorem ty9_str : strT Tryd.prog 9 = true := by kernel_rfl
@[go_sem] theorem ty9_zok : zeroOk Tryd.prog 9 = true := by kernel_rfl
@[go_sem] theorem ty9_by : bytesT Tryd.prog 9 = 16 := by kernel_rfl
@[go_sem] theorem ty9_ar : arT Tryd.prog 9 = none := by kernel_rfl
@[go_sem] theorem ty9_pl : placesL Tryd.prog 9 = none := by kernel_rfl
@[go_sem] theorem ty9_z : zeroAV Tryd.prog 9 = [.d (.v (.string ByteArray.empty))] := by kernel_rfl
@[go_sem] theorem ty20_has : hasT Tryd.prog 20 = true := by kernel_rfl
@[go_sem] theorem ty20_agg : aggT Tryd.prog 20 = false := by kernel_rfl
@[go_sem] theorem ty20_sz : szT Tryd.prog 20 = 1 := by kernel_rfl
@[go_sem] theorem ty20_sl : slT Tryd.prog 20 = false := by kernel_rfl
@[go_sem] theorem ty20_str : strT Tryd.prog 20 = false := by kernel_rfl
@[go_sem] theorem ty20_zok : zeroOk Tryd.prog 20 = true := by kernel_rfl
@[go_sem] theorem ty20_by : bytesT Tryd.prog 20 = 16 := by kernel_rfl
@[go_sem] theorem ty20_ar : arT Tryd.prog 20 = none := by kernel_rfl
@[go_sem] theorem ty20_pl : placesL Tryd.prog 20 = none := by kernel_rfl
@[go_sem] theorem ty20_z : zeroAV Tryd.prog 20 = [.d (.v (.nilIface))] := by kernel_rfl
@[go_sem] theorem ty22_has : hasT Tryd.prog 22 = true := by kernel_rfl
@[go_sem] theorem ty22_agg : aggT Tryd.prog 22 = false := by kernel_rfl
@[go_sem] theorem ty22_sz : szT Tryd.prog 22 = 1 := by kernel_rfl
@[go_sem] theorem ty22_sl : slT Tryd.prog 22 = true := by kernel_rfl
@[go_sem] theorem ty22_str : strT Tryd.prog 22 = false := by kernel_rfl
@[go_sem] theorem ty22_zok : zeroOk Tryd.prog 22 = true := by kernel_rfl
@[go_sem] theorem ty22_by : bytesT Tryd.prog 22 = 24 := by kernel_rfl
@[go_sem] theorem ty22_el : elT Tryd.prog 22 = 3 := by kernel_rfl
@[go_sem] theorem ty22_ar : arT Tryd.prog 22 = none := by kernel_rfl
@[go_sem] theorem ty22_pl : placesL Tryd.prog 22 = none := by kernel_rfl
@[go_sem] theorem ty22_z : zeroAV Tryd.prog 22 = [.nil] := by kernel_rfl
@[go_sem] theorem ty24_has : hasT Tryd.prog 24 = true := by kernel_rfl
@[go_sem] theorem ty24_agg : aggT Tryd.prog 24 = true := by kernel_rfl
@[go_sem] theorem ty24_sz : szT Tryd.prog 24 = 1 := by kernel_rfl
@[go_sem] theorem ty24_sl : slT Tryd.prog 24 = false := by kernel_rfl
@[go_sem] theorem ty24_str : strT Tryd.prog 24 = false := by kernel_rfl
@[go_sem] theorem ty24_zok : zeroOk Tryd.prog 24 = true := by kernel_rfl
@[go_sem] theorem ty24_by : bytesT Tryd.prog 24 = 24 := by kernel_rfl
@[go_sem] theorem ty24_ar : arT Tryd.prog 24 = none := by kernel_rfl
@[go_sem] theorem ty24_pl : placesL Tryd.prog 24 = some [(0, 1)] := by kernel_rfl
@[go_sem] theorem ty24_f0 : fldT Tryd.prog 24 0 = some (0, 22) := by kernel_rfl
@[go_sem] theorem ty24_z : zeroAV Tryd.prog 24 = [.nil] := by kernel_rfl
@[go_sem] theorem ty25_has : hasT Tryd.prog 25 = true := by kernel_rfl
@[go_sem] theorem ty25_agg : aggT Tryd.prog 25 = false := by kernel_rfl
@[go_sem] theorem ty25_sz : szT Tryd.prog 25 = 1 := by kernel_rfl
@[go_sem] theorem ty25_sl : slT Tryd.prog 25 = true := by kernel_rfl
@[go_sem] theorem ty25_str : strT Tryd.prog 25 = false := by kernel_rfl
@[go_sem] theorem ty25_zok : zeroOk Tryd.prog 25 = true := by kernel_rfl
@[go_sem] theorem ty25_by : bytesT Tryd.prog 25 = 24 := by kernel_rfl
@[go_sem] theorem ty25_el : elT Tryd.prog 25 = 27 := by kernel_rfl
@[go_sem] theorem ty25_ar : arT Tryd.prog 25 = none := by kernel_rfl
@[go_sem] theorem ty25_pl : placesL Tryd.prog 25 = none := by kernel_rfl
@[go_sem] theorem ty25_z : zeroAV Tryd.prog 25 = [.nil] := by kernel_rfl
@[go_sem] theorem ty27_has : hasT Tryd.prog 27 = true := by kernel_rfl
@[go_sem] theorem ty27_agg : aggT Tryd.prog 27 = true := by kernel_rfl
@[go_sem] theorem ty27_sz : szT Tryd.prog 27 = 3 := by kernel_rfl
@[go_sem] theorem ty27_sl : slT Tryd.prog 27 = false := by kernel_rfl
@[go_sem] theorem ty27_str : strT Tryd.prog 27 = false := by kernel_rfl
@[go_sem] theorem ty27_zok : zeroOk Tryd.prog 27 = true := by kernel_rfl
@[go_sem] theorem ty27_by : bytesT Tryd.prog 27 = 40 := by kernel_rfl
@[go_sem] theorem ty27_ar : arT Tryd.prog 27 = none := by kernel_rfl
@[go_sem] theorem ty27_pl : placesL Tryd.prog 27 = some [(0, 1), (1, 1), (2, 1)] := by kernel_rfl
@[go_sem] theorem ty27_f0 : fldT Tryd.prog 27 0 = some (0, 3) := by kernel_rfl
@[go_sem] theorem ty27_f1 : fldT Tryd.prog 27 1 = some (1, 3) := by kernel_rfl
@[go_sem] theorem ty27_f2 : fldT Tryd.prog 27 2 = some (2, 25) := by kernel_rfl
@[go_sem] theorem ty27_z : zeroAV Tryd.prog 27 = [.d (.v (.int .i64 0)), .d (.v (.int .i64 0)), .nil] := by kernel_rfl
@[go_sem] theorem ty29_has : hasT Tryd.prog 29 = true := by kernel_rfl
@[go_sem] theorem ty29_agg : aggT Tryd.prog 29 = false := by kernel_rfl
@[go_sem] theorem ty29_sz : szT Tryd.prog 29 = 1 := by kernel_rfl
@[go_sem] theorem ty29_sl : slT Tryd.prog 29 = true := by kernel_rfl
@[go_sem] theorem ty29_str : strT Tryd.prog 29 = false := by kernel_rfl
@[go_sem] theorem ty29_zok : zeroOk Tryd.prog 29 = true := by kernel_rfl
@[go_sem] theorem ty29_by : bytesT Tryd.prog 29 = 24 := by kernel_rfl
@[go_sem] theorem ty29_el : elT Tryd.prog 29 = 52 := by kernel_rfl
@[go_sem] theorem ty29_ar : arT Tryd.prog 29 = none := by kernel_rfl
@[go_sem] theorem ty29_pl : placesL Tryd.prog 29 = none := by kernel_rfl
@[go_sem] theorem ty29_z : zeroAV Tryd.prog 29 = [.nil] := by kernel_rfl
@[go_sem] theorem ty30_has : hasT Tryd.prog 30 = true := by kernel_rfl
@[go_sem] theorem ty30_agg : aggT Tryd.prog 30 = false := by kernel_rfl
@[go_sem] theorem ty30_sz : szT Tryd.prog 30 = 1 := by kernel_rfl
@[go_sem] theorem ty30_sl : slT Tryd.prog 30 = false := by kernel_rfl
@[go_sem] theorem ty30_str : strT Tryd.prog 30 = false := by kernel_rfl
@[go_sem] theorem ty30_zok : zeroOk Tryd.prog 30 = true := by kernel_rfl
@[go_sem] theorem ty30_by : bytesT Tryd.prog 30 = 8 := by kernel_rfl
@[go_sem] theorem ty30_ar : arT Tryd.prog 30 = none := by kernel_rfl
@[go_sem] theorem ty30_pl : placesL Tryd.prog 30 = none := by kernel_rfl
@[go_sem] theorem ty30_z : zeroAV Tryd.prog 30 = [.d (.v (.int .i64 0))] := by kernel_rfl
@[go_sem] theorem ty50_has : hasT Tryd.prog 50 = true := by kernel_rfl
@[go_sem] theorem ty50_agg : aggT Tryd.prog 50 = false := by kernel_rfl
@[go_sem] theorem ty50_sz : szT Tryd.prog 50 = 1 := by kernel_rfl
@[go_sem] theorem ty50_sl : slT Tryd.prog 50 = true := by kernel_rfl
@[go_sem] theorem ty50_str : strT Tryd.prog 50 = false := by kernel_rfl
@[go_sem] theorem ty50_zok : zeroOk Tryd.prog 50 = true := by kernel_rfl
@[go_sem] theorem ty50_by : bytesT Tryd.prog 50 = 24 := by kernel_rfl
@[go_sem] theorem ty50_el : elT Tryd.prog 50 = 9 := by kernel_rfl
@[go_sem] theorem ty50_ar : arT Tryd.prog 50 = none := by kernel_rfl
@[go_sem] theorem ty50_pl : placesL Tryd.prog 50 = none := by kernel_rfl
@[go_sem] theorem ty50_z : zeroAV Tryd.prog 50 = [.nil] := by kernel_rfl
@[go_sem] theorem ty52_has : hasT Tryd.prog 52 = true := by kernel_rfl
@[go_sem] theorem ty52_agg : aggT Tryd.prog 52 = true := by kernel_rfl
@[go_sem] theorem ty52_sz : szT Tryd.prog 52 = 7 := by kernel_rfl
@[go_sem] theorem ty52_sl : slT Tryd.prog 52 = false := by kernel_rfl
@[go_sem] theorem ty52_str : strT Tryd.prog 52 = false := by kernel_rfl
@[go_sem] theorem ty52_zok : zeroOk Tryd.prog 52 = true := by kernel_rfl
@[go_sem] theorem ty52_by : bytesT Tryd.prog 52 = 88 := by kernel_rfl
@[go_sem] theorem ty52_ar : arT Tryd.prog 52 = none := by kernel_rfl
@[go_sem] theorem ty52_pl : placesL Tryd.prog 52 = some [(0, 1), (1, 3), (4, 3)] := by kernel_rfl
@[go_sem] theorem ty52_f0 : fldT Tryd.prog 52 0 = some (0, 4) := by kernel_rfl
@[go_sem] theorem ty52_f1 : fldT Tryd.prog 52 1 = some (1, 27) := by kernel_rfl
@[go_sem] theorem ty52_f2 : fldT Tryd.prog 52 2 = some (4, 27) := by kernel_rfl
@[go_sem] theorem ty52_z : zeroAV Tryd.prog 52 = [.d (.v (.bool false)), .d (.v (.int .i64 0)), .d (.v (.int .i64 0)), .nil, .d (.v (.int .i64 0)), .d (.v (.int .i64 0)), .nil] := by kernel_rfl
@[go_sem] theorem ty61_has : hasT Tryd.prog 61 = true := by kernel_rfl
@[go_sem] theorem ty61_agg : aggT Tryd.prog 61 = false := by kernel_rfl
@[go_sem] theorem ty61_sz : szT Tryd.prog 61 = 1 := by kernel_rfl
@[go_sem] theorem ty61_sl : slT Tryd.prog 61 = false := by kernel_rfl
@[go_sem] theorem ty61_str : strT Tryd.prog 61 = false := by kernel_rfl
@[go_sem] theorem ty61_zok : zeroOk Tryd.prog 61 = true := by kernel_rfl
@[go_sem] theorem ty61_by : bytesT Tryd.prog 61 = 8 := by kernel_rfl
@[go_sem] theorem ty61_ar : arT Tryd.prog 61 = none := by kernel_rfl
@[go_sem] theorem ty61_pl : placesL Tryd.prog 61 = none := by kernel_rfl
@[go_sem] theorem ty61_z : zeroAV Tryd.prog 61 = [.d (.v (.pointer none))] := by kernel_rfl
@[go_sem] theorem ty63_has : hasT Tryd.prog 63 = true := by kernel_rfl
@[go_sem] theorem ty63_agg : aggT Tryd.prog 63 = false := by kernel_rfl
@[go_sem] theorem ty63_sz : szT Tryd.prog 63 = 1 := by kernel_rfl
@[go_sem] theorem ty63_sl : slT Tryd.prog 63 = false := by kernel_rfl
@[go_sem] theorem ty63_str : strT Tryd.prog 63 = false := by kernel_rfl
@[go_sem] theorem ty63_zok : zeroOk Tryd.prog 63 = true := by kernel_rfl
@[go_sem] theorem ty63_by : bytesT Tryd.prog 63 = 8 := by kernel_rfl
@[go_sem] theorem ty63_ar : arT Tryd.prog 63 = none := by kernel_rfl
@[go_sem] theorem ty63_pl : placesL Tryd.prog 63 = none := by kernel_rfl
@[go_sem] theorem ty63_z : zeroAV Tryd.prog 63 = [.d (.v (.nilFunc))] := by kernel_rfl
@[go_sem] theorem ty69_has : hasT Tryd.prog 69 = true := by kernel_rfl
@[go_sem] theorem ty69_agg : aggT Tryd.prog 69 = false := by kernel_rfl
@[go_sem] theorem ty69_sz : szT Tryd.prog 69 = 1 := by kernel_rfl
@[go_sem] theorem ty69_sl : slT Tryd.prog 69 = false := by kernel_rfl
@[go_sem] theorem ty69_str : strT Tryd.prog 69 = false := by kernel_rfl
@[go_sem] theorem ty69_zok : zeroOk Tryd.prog 69 = true := by kernel_rfl
@[go_sem] theorem ty69_by : bytesT Tryd.prog 69 = 8 := by kernel_rfl
@[go_sem] theorem ty69_ar : arT Tryd.prog 69 = none := by kernel_rfl
@[go_sem] theorem ty69_pl : placesL Tryd.prog 69 = none := by kernel_rfl
@[go_sem] theorem ty69_z : zeroAV Tryd.prog 69 = [.d (.v (.nilFunc))] := by kernel_rfl
@[go_sem] theorem ty70_has : hasT Tryd.prog 70 = true := by kernel_rfl
@[go_sem] theorem ty70_agg : aggT Tryd.prog 70 = false := by kernel_rfl
@[go_sem] theorem ty70_sz : szT Tryd.prog 70 = 1 := by kernel_rfl
@[go_sem] theorem ty70_sl : slT Tryd.prog 70 = false := by kernel_rfl
@[go_sem] theorem ty70_str : strT Tryd.prog 70 = false := by kernel_rfl
@[go_sem] theorem ty70_zok : zeroOk Tryd.prog 70 = true := by kernel_rfl
@[go_sem] theorem ty70_by : bytesT Tryd.prog 70 = 8 := by kernel_rfl
@[go_sem] theorem ty70_ar : arT Tryd.prog 70 = none := by kernel_rfl
@[go_sem] theorem ty70_pl : placesL Tryd.prog 70 = none := by kernel_rfl
@[go_sem] theorem ty70_z : zeroAV Tryd.prog 70 = [.d (.v (.pointer none))] := by kernel_rfl
@[go_sem] theorem ty71_has : hasT Tryd.prog 71 = true := by kernel_rfl
@[go_sem] theorem ty71_agg : aggT Tryd.prog 71 = false := by kernel_rfl
@[go_sem] theorem ty71_sz : szT Tryd.prog 71 = 1 := by kernel_rfl
@[go_sem] theorem ty71_sl : slT Tryd.prog 71 = true := by kernel_rfl
@[go_sem] theorem ty71_str : strT Tryd.prog 71 = false := by kernel_rfl
@[go_sem] theorem ty71_zok : zeroOk Tryd.prog 71 = true := by kernel_rfl
@[go_sem] theorem ty71_by : bytesT Tryd.prog 71 = 24 := by kernel_rfl
@[go_sem] theorem ty71_el : elT Tryd.prog 71 = 5 := by kernel_rfl
@[go_sem] theorem ty71_ar : arT Tryd.prog 71 = none := by kernel_rfl
@[go_sem] theorem ty71_pl : placesL Tryd.prog 71 = none := by kernel_rfl
@[go_sem] theorem ty71_z : zeroAV Tryd.prog 71 = [.nil] := by kernel_rfl
@[go_sem] theorem ty73_has : hasT Tryd.prog 73 = true := by kernel_rfl
@[go_sem] theorem ty73_agg : aggT Tryd.prog 73 = true := by kernel_rfl
@[go_sem] theorem ty73_sz : szT Tryd.prog 73 = 2 := by kernel_rfl
@[go_sem] theorem ty73_sl : slT Tryd.prog 73 = false := by kernel_rfl
@[go_sem] theorem ty73_str : strT Tryd.prog 73 = false := by kernel_rfl
@[go_sem] theorem ty73_zok : zeroOk Tryd.prog 73 = true := by kernel_rfl
@[go_sem] theorem ty73_by : bytesT Tryd.prog 73 = 32 := by kernel_rfl
@[go_sem] theorem ty73_ar : arT Tryd.prog 73 = none := by kernel_rfl
@[go_sem] theorem ty73_pl : placesL Tryd.prog 73 = some [(0, 1), (1, 1)] := by kernel_rfl
@[go_sem] theorem ty73_f0 : fldT Tryd.prog 73 0 = some (0, 70) := by kernel_rfl
@[go_sem] theorem ty73_f1 : fldT Tryd.prog 73 1 = some (1, 71) := by kernel_rfl
@[go_sem] theorem ty73_z : zeroAV Tryd.prog 73 = [.d (.v (.pointer none)), .nil] := by kernel_rfl
@[go_sem] theorem ty76_has : hasT Tryd.prog 76 = true := by kernel_rfl
@[go_sem] theorem ty76_agg : aggT Tryd.prog 76 = false := by kernel_rfl
@[go_sem] theorem ty76_sz : szT Tryd.prog 76 = 1 := by kernel_rfl
@[go_sem] theorem ty76_sl : slT Tryd.prog 76 = false := by kernel_rfl
@[go_sem] theorem ty76_str : strT Tryd.prog 76 = false := by kernel_rfl
@[go_sem] theorem ty76_zok : zeroOk Tryd.prog 76 = true := by kernel_rfl
@[go_sem] theorem ty76_by : bytesT Tryd.prog 76 = 16 := by kernel_rfl
@[go_sem] theorem ty76_ar : arT Tryd.prog 76 = none := by kernel_rfl
@[go_sem] theorem ty76_pl : placesL Tryd.prog 76 = none := by kernel_rfl
@[go_sem] theorem ty76_z : zeroAV Tryd.prog 76 = [.d (.v (.nilIface))] := by kernel_rfl
@[go_sem] theorem ty83_has : hasT Tryd.prog 83 = true := by kernel_rfl
@[go_sem] theorem ty83_agg : aggT Tryd.prog 83 = true := by kernel_rfl
@[go_sem] theorem ty83_sz : szT Tryd.prog 83 = 0 := by kernel_rfl
@[go_sem] theorem ty83_sl : slT Tryd.prog 83 = false := by kernel_rfl
@[go_sem] theorem ty83_str : strT Tryd.prog 83 = false := by kernel_rfl
@[go_sem] theorem ty83_zok : zeroOk Tryd.prog 83 = true := by kernel_rfl
@[go_sem] theorem ty83_by : bytesT Tryd.prog 83 = 0 := by kernel_rfl
@[go_sem] theorem ty83_ar : arT Tryd.prog 83 = none := by kernel_rfl
@[go_sem] theorem ty83_pl : placesL Tryd.prog 83 = some [] := by kernel_rfl
@[go_sem] theorem ty83_z : zeroAV Tryd.prog 83 = [] := by kernel_rfl
@[go_sem] theorem ty86_has : hasT Tryd.prog 86 = true := by kernel_rfl
@[go_sem] theorem ty86_agg : aggT Tryd.prog 86 = true := by kernel_rfl
@[go_sem] theorem ty86_sz : szT Tryd.prog 86 = 2 := by kernel_rfl
@[go_sem] theorem ty86_sl : slT Tryd.prog 86 = false := by kernel_rfl
@[go_sem] theorem ty86_str : strT Tryd.prog 86 = false := by kernel_rfl
@[go_sem] theorem ty86_zok : zeroOk Tryd.prog 86 = true := by kernel_rfl
@[go_sem] theorem ty86_by : bytesT Tryd.prog 86 = 24 := by kernel_rfl
@[go_sem] theorem ty86_ar : arT Tryd.prog 86 = none := by kernel_rfl
@[go_sem] theorem ty86_pl : placesL Tryd.prog 86 = some [(0, 1), (1, 1)] := by kernel_rfl
@[go_sem] theorem ty86_f0 : fldT Tryd.prog 86 0 = some (0, 9) := by kernel_rfl
@[go_sem] theorem ty86_f1 : fldT Tryd.prog 86 1 = some (1, 3) := by kernel_rfl
@[go_sem] theorem ty86_z : zeroAV Tryd.prog 86 = [.d (.v (.string ByteArray.empty)), .d (.v (.int .i64 0))] := by kernel_rfl
@[go_sem] theorem ty123_has : hasT Tryd.prog 123 = true := by kernel_rfl
@[go_sem] theorem ty123_agg : aggT Tryd.prog 123 = true := by kernel_rfl
@[go_sem] theorem ty123_sz : szT Tryd.prog 123 = 3 := by kernel_rfl
@[go_sem] theorem ty123_sl : slT Tryd.prog 123 = false := by kernel_rfl
@[go_sem] theorem ty123_str : strT Tryd.prog 123 = false := by kernel_rfl
@[go_sem] theorem ty123_zok : zeroOk Tryd.prog 123 = true := by kernel_rfl
@[go_sem] theorem ty123_by : bytesT Tryd.prog 123 = 48 := by kernel_rfl
@[go_sem] theorem ty123_ar : arT Tryd.prog 123 = none := by kernel_rfl
@[go_sem] theorem ty123_pl : placesL Tryd.prog 123 = some [(0, 1), (1, 1), (2, 1)] := by kernel_rfl
@[go_sem] theorem ty123_f0 : fldT Tryd.prog 123 0 = some (0, 9) := by kernel_rfl
@[go_sem] theorem ty123_f1 : fldT Tryd.prog 123 1 = some (1, 9) := by kernel_rfl
@[go_sem] theorem ty123_f2 : fldT Tryd.prog 123 2 = some (2, 76) := by kernel_rfl
@[go_sem] theorem ty123_z : zeroAV Tryd.prog 123 = [.d (.v (.string ByteArray.empty)), .d (.v (.string ByteArray.empty)), .d (.v (.nilIface))] := by kernel_rfl
theorem enter6 : enterOk Tryd.prog 6 := by intro a w; go_simp
theorem enter7 : enterOk Tryd.prog 7 := by intro a w; go_simp
theorem enter9 : enterOk Tryd.prog 9 := by intro a w; go_simp
theorem enter10 : enterOk Tryd.prog 10 := by intro a w; go_simp
theorem enter13 : enterOk Tryd.prog 13 := by intro a w; go_simp
theorem enter14 : enterOk Tryd.prog 14 := by intro a w; go_simp
theorem enter15 : enterOk Tryd.prog 15 := by intro a w; go_simp
theorem enter16 : enterOk Tryd.prog 16 := by intro a w; go_simp
theorem enter17 : enterOk Tryd.prog 17 := by intro a w; go_simp
theorem enter18 : enterOk Tryd.prog 18 := by intro a w; go_simp
theorem enter19 : enterOk Tryd.prog 19 := by intro a w; go_simp
theorem enter20 : enterOk Tryd.prog 20 := by intro a w; go_simp
theorem enter21 : enterOk Tryd.prog 21 := by intro a w; go_simp
theorem enter22 : enterOk Tryd.prog 22 := by intro a w; go_simp
theorem enter23 : enterOk Tryd.prog 23 := by intro a w; go_simp
theorem enter24 : enterOk Tryd.prog 24 := by intro a w; go_simp
theorem enter25 : enterOk Tryd.prog 25 := by intro a w; go_simp
theorem enter28 : enterOk Tryd.prog 28 := by intro a w; go_simp
theorem enter29 : enterOk Tryd.prog 29 := by intro a w; go_simp
theorem enter30 : enterOk Tryd.prog 30 := by intro a w; go_simp
theorem enter31 : enterOk Tryd.prog 31 := by intro a w; go_simp
theorem enter32 : enterOk Tryd.prog 32 := by intro a w; go_simp
theorem enter33 : enterOk Tryd.prog 33 := by intro a w; go_simp
theorem enter34 : enterOk Tryd.prog 34 := by intro a w; go_simp
theorem enter35 : enterOk Tryd.prog 35 := by intro a w; go_simp
theorem enter36 : enterOk Tryd.prog 36 := by intro a w; go_simp
theorem enter37 : enterOk Tryd.prog 37 := by intro a w; go_simp
theorem enter38 : enterOk Tryd.prog 38 := by intro a w; go_simp
theorem enter39 : enterOk Tryd.prog 39 := by intro a w; go_simp
theorem enter47 : enterOk Tryd.prog 47 := by intro a w; go_simp
theorem enter48 : enterOk Tryd.prog 48 := by intro a w; go_simp
theorem enter49 : enterOk Tryd.prog 49 := by intro a w; go_simp
theorem enter50 : enterOk Tryd.prog 50 := by intro a w; go_simp
theorem enter53 : enterOk Tryd.prog 53 := by intro a w; go_simp
theorem enter58 : enterOk Tryd.prog 58 := by intro a w; go_simp
theorem enter59 : enterOk Tryd.prog 59 := by intro a w; go_simp
theorem mixed : Tryd.prog.follows .mixedOrders = true := by kernel_rfl
end Go.Proofs.YtmeekpinkfpnhabDoor

/- The operations: each does to worlds what is said of it on pure values (5): append. -/
import Derived.Test.YtmeekpinkfpnhabDoorP01
set_option linter.all false
namespace Go.Proofs.YtmeekpinkfpnhabDoor
open Go.RowKit
theorem setR_len : ∀ (xs : List AV) (cs : List AV) (off : Nat), (setR cs off xs).length = cs.length
 | [], cs, off => rfl
 | x :: xs, cs, off => by rw [setR, setR_len xs]; simp
theorem setR_get : ∀ (xs : List AV) (cs : List AV) (off i : Nat), off + xs.length ≤ cs.length → (setR cs off xs)[i]? = if off ≤ i ∧ i < off + xs.length then xs[i - off]? else cs[i]?
 | [], cs, off, i, _ => by
  rw [setR, if_neg]
  simp only [List.length_nil]
  omega
 | x :: xs, cs, off, i, hl => by
  simp only [List.length_cons] at hl
  rw [setR, setR_get xs _ _ _ (by simp; omega)]
  by_cases h1 : off + 1 ≤ i ∧ i < off + 1 + xs.length
  ·rw [if_pos h1, if_pos (by simp; omega)]
   rw [show i - off = (i - (off + 1)) + 1 by omega]
   rfl
  ·rw [if_neg h1]
   by_cases h2 : i = off
   ·subst h2
    rw [if_pos (by simp)]
    rw [List.getElem?_set_self (by omega)]
    simp
   ·rw [if_neg (by simp; omega), List.getElem?_set_ne (Ne.symm h2)]
section
variable {P : Program} {w0 : GW} {w : World} {h : Heap} {k : Nat} {m : Mem} {β : Bl} {nm : Nm}
theorem cells_of {n : Nm} (his : isCells h n) : ∃ e cs, h n = some (.cells e cs) ∧ objCells h n = cs ∧ objTy h n = e := by
 unfold isCells at his
 cases hh : h n with
 | none => simp [hh] at his
 | some ob => cases ob <;> simp [hh] at his; exact ⟨_, _, rfl, by simp [objCells, hh], by simp [objTy, hh]⟩
def URes (P : Program) (w0 : GW) (h : Heap) (k : Nat) (m : Mem) (β : Bl) (w : World) (e : Eff) (s : Sem Unit) : Prop :=
 ∃ w' m' β', s.run P w = .ok () w' ∧ m.le m' ∧ β.le β' ∧ (∀ n, β n = none → β' n = none) ∧ HRel P w0 (e.ap h) k m' β' w' ∧ e.val = .junk
theorem store_ok {t : TypeId} {v u : Value} {a x : AV} (H : HRel P w0 h k m β w) (ht : hasT P t = true) (hv : R m β v a) (hu : R m β u x) (hok : okStore P t a x h) : URes P w0 h k m β w (effStore a x h) (Instr.storeAt t v u) := by
 cases hv with
 | @ptr n off p hb hver =>
  obtain ⟨hst, his, hlen, hsz⟩ := hok
  obtain ⟨e, cs, hn, hcs, hty⟩ := cells_of his
  rw [hcs] at hlen
  obtain ⟨hc1, hc2⟩ := hu.cells hst
  obtain ⟨q, hq, _, c, c1, c2, c3, c4⟩ := H.obj n _ hn
  rw [hb] at hq; cases hq
  have hrun := run_storeCells_at P p.1 off e u.cells.toList 0 c w c1 (by simp; omega) (fun y hy => by
   obtain ⟨i, hi, rfl⟩ := List.getElem_of_mem hy
   simp at hi
   exact (hc2 i _ (x.cells[i]'(by omega)) (by simp) (by simp)).1)
  have hrun' : (Instr.storeAt t (.pointer (some ⟨p.1, off, none⟩)) u).run P w = (storeCells ⟨p.1, off, none⟩ u.cells.toList).run P w := by
   simp only [Instr.storeAt, Instr.sureAddr, storeVar, Sem.run_bind, Sem.run_pure, Result.andThen_ok, run_sizeOf' (hasT_info ht)]
   rw [if_neg (by simp; omega)]
  refine ⟨_, m, β, hrun'.trans hrun, .rfl' m, .rfl' β, fun _ h => h, ?_, rfl⟩
  ·simp only [effStore, Eff.ap, List.foldl_cons, List.foldl_nil, hcs, hty]
   refine H.store hn hb (by rw [setR_len]; simp; omega) fun i y b hi hbb => ?_
   rw [setR_get _ _ _ _ hlen] at hbb
   simp only [Nat.add_zero, List.getElem?_toArray] at hi
   have hul : u.cells.toList.length = x.cells.length := by simpa using hc1
   by_cases hin : off ≤ i ∧ i < off + x.cells.length
   ·rw [if_pos hin] at hbb
    rw [List.append_assoc, List.getElem?_append_right (by simp; omega)] at hi
    have : (c.toList.take off).length = off := by simp; omega
    rw [this, List.getElem?_append_left (by omega)] at hi
    exact hc2 (i - off) y b (by simpa using hi) hbb
   ·rw [if_neg hin] at hbb
    have hyc : c[i]? = some y := by
     rw [← Array.getElem?_toList, ← hi]
     by_cases hlt : i < off
     ·rw [List.append_assoc, List.getElem?_append_left (by simp; omega), List.getElem?_take, if_pos hlt]
     ·rw [List.append_assoc, List.getElem?_append_right (by simp; omega), List.getElem?_append_right (by simp; omega), List.getElem?_drop]
      congr 1
      simp
      omega
    exact c3 i y b hyc hbb
 | _ => exact hok.elim
theorem box_ok {t : TypeId} {u : Value} {x : AV} (H : HRel P w0 h k m β w) (hbn : β nm = none) (hk : nm.1 < k) (hu : R m β u x) (hst : stOK x) :
  VRes P w0 h k m β w nm ⟨.ptr nm 0, [], [(nm, some (.cells t x.cells))]⟩ (Instr.box t u) := by
 obtain ⟨hc1, hc2⟩ := hu.cells hst
 refine ⟨.pointer (some ⟨w.heap.size, 0, none⟩), w.alloc (.cells u.cells t), m, updB β nm ⟨w.heap.size, 0, none⟩, ?_, .rfl' m, updB_le (le_new hbn), fun n hn => updB_none hn, H.alloc hbn hk (Nat.le_of_eq hc1.symm) hc2, .ptr (p := ⟨w.heap.size, 0, none⟩) (updB_self _ _ _) rfl⟩
 simp [Instr.box, newVar, newRow]
theorem alloc_ok {t : TypeId} (H : HRel P w0 h k m β w) (hbn : β nm = none) (hk : nm.1 < k) (ht : zeroOk P t = true) :
  VRes P w0 h k m β w nm ⟨.ptr nm 0, [], [(nm, some (.cells t (zeroAV P t)))]⟩ (Instr.alloc t true (.tuple #[])) := by
 obtain ⟨i, z, hi, hz, hs, _, h1, h2⟩ := zeroOk_of ht
 obtain ⟨hc1, hc2⟩ := constAV_cells (m := m) (β := β) h1
 refine ⟨.pointer (some ⟨w.heap.size, 0, none⟩), w.alloc (.cells z.cells t), m, updB β nm ⟨w.heap.size, 0, none⟩, ?_, .rfl' m, updB_le (le_new hbn), fun n hn => updB_none hn, ?_, .ptr (p := ⟨w.heap.size, 0, none⟩) (updB_self _ _ _) rfl⟩
 ·simp [Instr.alloc, run_zero hi hz, newVar, newRow]
 ·rw [h2]
  exact H.alloc hbn hk (Nat.le_of_eq hc1.symm) hc2
theorem fieldAddr_ok {s : TypeId} {f : Nat} {v : Value} {a : AV} {fl : Nat × TypeId} (H : HRel P w0 h k m β w) (hv : R m β v a) (ha : isPlace a = true) (hf : fldT P s f = some fl) (hz : 0 < szT P fl.2) (ht : hasT P fl.2 = true) :
  VRes P w0 h k m β w nm (pure' (addTo a fl.1)) (Instr.fieldAt s v f) := by
 obtain ⟨fs, x, h1, h2, h3, h4⟩ := fldT_of hf
 have hrun : ∀ b o, v = .pointer (some ⟨b, o, none⟩) → (Instr.fieldAt s v f).run P w = .ok (.pointer (some ⟨b, o + fl.1, none⟩)) w := by
  intro b o hv
  subst hv
  simp only [Instr.fieldAt, Sem.run_bind, run_underlying h1, Result.andThen_ok, h2, Instr.sureAddr, Sem.run_pure, fieldPlace, h4, run_sizeOf' (hasT_info ht)]
  rw [if_neg (by omega)]
  simp [h3, add_none']
 cases hv with
 | @el b o y off hc =>
  refine VRes.same H (hrun _ _ rfl) rfl ?_
  rw [Nat.add_assoc]
  exact .el hc
 | ptr hb hver => exact VRes.same H (hrun _ _ rfl) rfl (.ptr hb hver)
 | _ => simp [isPlace] at ha
theorem field_ok {s : TypeId} {f : Nat} {v : Value} {a : AV} {fl : Nat × TypeId} (H : HRel P w0 h k m β w) (hv : R m β v a) (ha : isStruct a) (hf : fldT P s f = some fl) (ht : hasT P fl.2 = true)
  (hl : fl.1 + (if aggT P fl.2 then szT P fl.2 else 1) ≤ a.cells.length) :
  VRes P w0 h k m β w nm (pure' (if aggT P fl.2 then .st ((a.cells.drop fl.1).take (szT P fl.2)) else a.cells.getD fl.1 .junk)) (Instr.field s v f) := by
 obtain ⟨fs, x, h1, h2, h3, h4⟩ := fldT_of hf
 have hst : stOK a := by cases a <;> first | trivial | exact ha.elim
 obtain ⟨hc1, hc2⟩ := hv.cells hst
 obtain ⟨cs, hcs⟩ : ∃ cs, v = .agg cs := by
  cases hv with
  | st => exact ⟨_, rfl⟩
  | d hd => cases hd with
   | st => exact ⟨_, rfl⟩
   | _ => exact ha.elim
  | _ => exact ha.elim
 subst hcs
 simp only [Value.cells] at hc1 hc2
 have hrun : (Instr.field s (.agg cs) f).run P w = (part fl.2 cs fl.1).run P w := by
  simp only [Instr.field, Sem.run_bind, run_underlying h1, Result.andThen_ok, h2, h3, h4, asAgg, Sem.run_pure]
 by_cases hagg : aggT P fl.2 = true
 ·simp only [hagg, if_true] at hl
  refine VRes.same (v := .agg (cs.extract fl.1 (fl.1 + szT P fl.2))) H ?_ rfl ?_
  ·rw [hrun]
   simp only [part, Sem.run_bind, run_isAgg' ht, Result.andThen_ok, hagg, if_true, run_sizeOf' (hasT_info ht), Sem.run_pure]
  ·simp only [hagg, if_true]
   have hget : ∀ (i : Nat) (c : Value), (cs.extract fl.1 (fl.1 + szT P fl.2))[i]? = some c → cs[fl.1 + i]? = some c := fun i c hi => by
    rw [Array.getElem?_extract] at hi
    split at hi
    ·exact hi
    ·cases hi
   refine .st (by simp; omega) (fun i c hi => ?_) fun i c b hi hb => ?_
   ·have := hget i c hi
    have hlt : fl.1 + i < cs.size := (Array.getElem?_eq_some_iff.1 this).1
    exact (hc2 (fl.1 + i) c _ this (List.getElem?_eq_getElem (by omega))).1
   ·rw [List.getElem?_take] at hb
    split at hb
    ·rw [List.getElem?_drop] at hb
     exact (hc2 (fl.1 + i) c b (hget i c hi) hb).2
    ·cases hb
 ·simp only [hagg, Bool.false_eq_true, if_false] at hl
  have hlt : fl.1 < cs.size := by omega
  have hu : cs[fl.1]? = some cs[fl.1] := Array.getElem?_eq_getElem hlt
  refine VRes.same (v := cs[fl.1]) H ?_ rfl ?_
  ·rw [hrun]
   simp only [part, Sem.run_bind, run_isAgg' ht, Result.andThen_ok, hagg, Bool.false_eq_true, if_false, hu, Sem.run_pure]
  ·simp only [hagg, Bool.false_eq_true, if_false]
   rw [List.getD_eq_getElem?_getD, List.getElem?_eq_getElem (by omega)]
   exact (hc2 fl.1 _ _ hu (List.getElem?_eq_getElem (by omega))).2
theorem R.int {v : Value} {a : AV} (hv : R m β v a) (ha : isInt a = true) : ∃ kk, v = .int kk (intOf' a) := by
 cases hv with
 | d hd =>
  cases hd with
  | v _ => cases v <;> simp_all [isInt, intOf']
  | _ => simp [isInt] at ha
 | _ => simp [isInt] at ha
theorem run_asIntOf' (kk : IntKind) (n : Int) (w : World) : (asIntOf (.int kk n)).run P w = .ok (kk, n) w := by simp [asIntOf]
theorem indexAddr_ok {t : TypeId} {v u : Value} {a ix : AV} (H : HRel P w0 h k m β w) (hv : R m β v a) (hu : R m β u ix) (hok : okIndexAddr P t a ix) (ht : hasT P t = true) (he : hasT P (elT P t) = true) :
  VRes P w0 h k m β w nm (pure' (effIndexAddr P t a ix)) (Instr.indexAt t v u) := by
 obtain ⟨hi, h0, hok⟩ := hok
 obtain ⟨kk, rfl⟩ := hu.int hi
 have hsl : ∀ b o n cap, slT P t = true → v = .slice (some ⟨b, o, none⟩) n cap → intOf' ix < n → (Instr.indexAt t v (.int kk (intOf' ix))).run P w = .ok (.pointer (some ⟨b, o + (intOf' ix).toNat * szT P (elT P t), none⟩)) w := by
  intro b o n cap hs hv hlt
  subst hv
  simp only [Instr.indexAt, Sem.run_bind, run_asIntOf', Result.andThen_ok, run_underlying (slT_of hs), Sem.run_pure]
  simp only [h0, hlt, and_self, if_true, Sem.run_bind, run_sizeOf' (hasT_info he), Result.andThen_ok, Sem.run_pure, add_none']
 have har : ∀ b o n, arT P t = some n → v = .pointer (some ⟨b, o, none⟩) → intOf' ix < n → (Instr.indexAt t v (.int kk (intOf' ix))).run P w = .ok (.pointer (some ⟨b, o + (intOf' ix).toNat * szT P (elT P t), none⟩)) w := by
  intro b o n hs hv hlt
  subst hv
  simp only [Instr.indexAt, Sem.run_bind, run_asIntOf', Result.andThen_ok, run_underlying (arT_of hs), Instr.sureAddr, Sem.run_pure]
  simp only [h0, hlt, and_self, if_true, Sem.run_bind, run_sizeOf' (hasT_info he), Result.andThen_ok, Sem.run_pure, add_none']
 have hlist : ∀ (xs : List DV), slT P t = true → RD m v (.sl xs) → intOf' ix < xs.length → (xs.getD (intOf' ix).toNat default).cells.length = szT P (elT P t) →
   VRes P w0 h k m β w nm (pure' (.el (xs.getD (intOf' ix).toNat default) 0)) (Instr.indexAt t v (.int kk (intOf' ix))) := by
  intro xs hs hd hlt hsz
  have hlt' : (intOf' ix).toNat < xs.length := by omega
  have hx : xs[(intOf' ix).toNat]? = some (xs.getD (intOf' ix).toNat default) := by
   rw [List.getD_eq_getElem?_getD, List.getElem?_eq_getElem hlt']; rfl
  cases hd with
  | nil => simp at hlt'
  | @sl b o n cap sz _ hn hcap hmax hsz' hss hc =>
   have e : sz = szT P (elT P t) := (hsz' _ (List.mem_of_getElem? hx)).symm.trans hsz
   subst e
   refine VRes.same H (hsl b o n cap hs rfl (by omega)) rfl ?_
   exact .el (off := 0) fun j d hd => by
    obtain ⟨c, h1⟩ := hss _ _ _ _ hx hd
    exact ⟨c, h1, hc _ _ _ _ _ hx hd h1⟩
 cases hv with
 | d hd =>
  obtain ⟨h1, h2, h3, h4⟩ := hok
  cases hd with
  | nil => exact hlist [] h1 .nil h3 h4
  | sl hn hcap hmax hsz hs hc => exact hlist _ h1 (.sl hn hcap hmax hsz hs hc) h3 h4
  | _ => simp [isList] at h2
 | nil => obtain ⟨h1, h2, h3, h4⟩ := hok; exact hlist [] h1 .nil h3 h4
 | own hr hb hv hl ha => obtain ⟨h1, h2, h3, h4⟩ := hok; exact hlist _ h1 hr h3 h4
 | @arr n off len cap o p hb hver hc hm ho =>
  obtain ⟨h1, h2⟩ := hok
  have : o = off := by rcases ho with h | h <;> omega
  subst this
  exact VRes.same H (hsl _ _ _ _ h1 rfl h2) rfl (.ptr hb hver)
 | @el b o y off hc =>
  simp only at hok
  split at hok
  ·rename_i n hn
   refine VRes.same H (har _ _ n hn rfl hok) rfl ?_
   rw [Nat.add_assoc]
   exact .el hc
  ·exact hok.elim
 | ptr hb hver =>
  simp only at hok
  split at hok
  ·rename_i n hn
   exact VRes.same H (har _ _ n hn rfl hok) rfl (.ptr hb hver)
  ·exact hok.elim
 | _ => obtain ⟨h1, h2, _⟩ := hok; simp [isList] at h2
theorem R.val {v : Value} {a : AV} (hv : R m β v a) (ha : isVal a = true) : v = valOf a ∧ v.oneCell' = true := by
 cases hv with
 | d hd =>
  cases hd with
  | v h1 => exact ⟨rfl, h1⟩
  | _ => simp [isVal] at ha
 | _ => simp [isVal] at ha
theorem wrap_i64 {x : Int} (h1 : -9223372036854775808 ≤ x) (h2 : x ≤ 9223372036854775807) : IntKind.i64.wrap x = x := IntWalk.i64_in _ (by omega)
theorem inK_wrap {kk : IntKind} {x : Int} (hx : inK kk x) : kk.wrap x = x := by
 cases kk <;> simp only [inK] at hx <;> first | exact hx | exact wrap_i64 hx.1 hx.2
theorem run_str_add (t : TypeId) (a b : ByteArray) (hl : a.size + b.size ≤ 1099511627776) : (binOp .add t (.string a) (.string b)).run P w = .ok (.string (a ++ b)) w := by
 have e : IntKind.i64.max = 9223372036854775807 := by decide
 have h2 : ¬ (((a.size + b.size : Nat) : Int) > IntKind.i64.max) := by rw [e]; omega
 simp only [binOp, Op.stringOp]
 rw [if_neg h2]
 rfl
theorem bin_run {t : TypeId} {b : BinOp} {x y : Value} (hok : okBin P t b x y) (ox oy : Operand) : (do eqGuard b t ox oy x y; binOp b t x y : Sem Value).run P w = .ok (binV b x y) w ∧ (binV b x y).oneCell' = true := by
 cases b <;> cases x <;> cases y <;> simp only [okBin] at hok <;>
  first
  | exact hok.elim
  | (obtain ⟨rfl, h1⟩ := hok; simp [eqGuard, binOp, Op.intArith, inK_wrap h1, binV, Value.oneCell']; done)
  | (obtain ⟨rfl, h1, h2⟩ := hok; simp [eqGuard, binOp, Op.intDiv, inK_wrap h2, h1, binV, Value.oneCell']; done)
  | (obtain ⟨rfl, h1⟩ := hok; simp [eqGuard, binOp, Op.intDiv, h1, binV, Value.oneCell']; done)
  | (subst hok; simp [eqGuard, binOp, Op.intCmp, binV, Value.oneCell']; done)
  | (refine ⟨?_, rfl⟩; simp [eqGuard, binOp, Op.stringOp, binV]; done)
  | (refine ⟨?_, rfl⟩; simp only [eqGuard]; exact run_str_add t _ _ hok)
  | (refine ⟨?_, rfl⟩; simp [eqGuard, run_eql_bool _ _ _ _ hok, run_neq_bool _ _ _ _ hok, binV]; done)
theorem un_run {u : UnOp} {x : Value} (hok : okUn u x) : (Op.unary u x).run P w = .ok (unV u x) w ∧ (unV u x).oneCell' = true := by
 cases u <;> cases x <;> simp only [okUn] at hok <;>
  first
  | exact hok.elim
  | (refine ⟨?_, rfl⟩; simp only [Op.unary, Op.intArith, Sem.run_pure, inK_wrap hok, unV]; done)
  | (refine ⟨?_, rfl⟩; rfl)
end
section
variable {P : Program} {w0 : GW} {w : World} {h : Heap} {k : Nat} {m : Mem} {β : Bl} {nm : Nm}
theorem RD.cells {v : Value} {x : DV} (hr : RD m v x) : v.cells.size = x.cells.length ∧ ∀ (i : Nat) (c : Value) (d : DV), v.cells[i]? = some c → x.cells[i]? = some d → c.oneCell' = true ∧ RD m c d := by
 obtain ⟨h1, h2⟩ := (R.d (β := fun _ => none) hr).cells trivial
 refine ⟨by simpa [AV.cells] using h1, fun i c d hc hd => ?_⟩
 obtain ⟨h3, h4⟩ := h2 i c (.d d) hc (by simp [AV.cells, hd])
 refine ⟨h3, ?_⟩
 cases h4 with
 | d h => exact h
theorem allD_get : ∀ {az : List AV} {xs : List DV}, allD az = some xs → az.length = xs.length ∧ ∀ (i : Nat) (a : AV) (x : DV), az[i]? = some a → xs[i]? = some x → a.toD? = some x
 | [], xs, hx => by
  simp only [allD, Option.some.injEq] at hx
  subst hx
  exact ⟨rfl, fun i a x ha => by simp at ha⟩
 | a :: az, xs, hx => by
  rw [allD] at hx
  cases h1 : a.toD? with
  | none => simp [h1] at hx
  | some y =>
   cases h2 : allD az with
   | none => simp [h1, h2] at hx
   | some ys =>
    simp only [h1, h2, Option.some.injEq] at hx
    subst hx
    obtain ⟨h3, h4⟩ := allD_get h2
    refine ⟨by simp [h3], fun i b x hb hx => ?_⟩
    cases i with
    | zero => simp at hb hx; subst hb; subst hx; exact h1
    | succ i => exact h4 i b x (by simpa using hb) (by simpa using hx)
theorem R.toD {v : Value} {a : AV} (hr : R m β v a) : ∀ {x : DV}, a.toD? = some x → RD m v x := by
 induction hr with
 | d hd => intro x hx; simp only [AV.toD?, Option.some.injEq] at hx; subst hx; exact hd
 | nil => intro x hx; simp only [AV.toD?, Option.some.injEq] at hx; subst hx; exact .nil
 | own hr _ _ _ _ => intro x hx; simp only [AV.toD?, Option.some.injEq] at hx; subst hx; exact hr
 | @st cs az hl h1 _ ih =>
  intro x hx
  simp only [AV.toD?, Option.map_eq_some_iff] at hx
  obtain ⟨xs, hxs, rfl⟩ := hx
  obtain ⟨h2, h3⟩ := allD_get hxs
  refine .st (hl.trans h2) h1 fun i c d hc hd => ?_
  have hlt : i < az.length := by have := (List.getElem?_eq_some_iff.1 hd).1; omega
  have ha : az[i]? = some az[i] := List.getElem?_eq_getElem hlt
  exact ih i c _ hc ha (h3 i _ d ha hd)
 | _ => intro x hx; simp [AV.toD?] at hx
theorem toD_of {a : AV} (ha : a.toD?.isSome = true) : a.toD? = some a.toD := by
 unfold AV.toD
 cases h : a.toD? with
 | none => simp [h] at ha
 | some x => rfl
theorem R.dat {v : Value} {a : AV} (hr : R m β v a) : R m β v a.dat := by
 unfold AV.dat
 split
 ·rename_i x hx; exact .d (hr.toD hx)
 ·exact hr
theorem foldl_set (off : Nat) : ∀ (vs : List Value) (n : Nat) (cs : Array Value), off + n + vs.length ≤ cs.size →
  ((vs.zipIdx n).foldl (fun cs x => cs.setIfInBounds (off + x.2) x.1) cs).size = cs.size ∧
  ∀ i, ((vs.zipIdx n).foldl (fun cs x => cs.setIfInBounds (off + x.2) x.1) cs)[i]? = if off + n ≤ i ∧ i < off + n + vs.length then vs[i - (off + n)]? else cs[i]?
 | [], n, cs, _ => ⟨rfl, fun i => by rw [if_neg (by simp only [List.length_nil]; omega)]; rfl⟩
 | v :: vs, n, cs, hl => by
  simp only [List.length_cons] at hl
  simp only [List.zipIdx_cons, List.foldl_cons]
  obtain ⟨h1, h2⟩ := foldl_set off vs (n + 1) (cs.setIfInBounds (off + n) v) (by simp; omega)
  refine ⟨by rw [h1]; simp, fun i => ?_⟩
  rw [h2 i]
  by_cases h3 : off + (n + 1) ≤ i ∧ i < off + (n + 1) + vs.length
  ·rw [if_pos h3, if_pos (by simp only [List.length_cons]; omega), show i - (off + n) = (i - (off + (n + 1))) + 1 by omega]
   rfl
  ·rw [if_neg h3]
   by_cases h4 : i = off + n
   ·subst h4
    rw [if_pos (by simp only [List.length_cons]; omega), Array.getElem?_setIfInBounds_self_of_lt (by omega)]
    simp
   ·rw [if_neg (by simp only [List.length_cons]; omega), Array.getElem?_setIfInBounds_ne (Ne.symm h4)]
theorem fill_step {place : Nat → Option (Nat × Nat)} {cells : Array Value} {i : Nat} {v : Value} {rest : List (Nat × Value)} {off size : Nat} (hp : place i = some (off, size)) (hv : v.cells.size = size) (hl : off + size ≤ cells.size) :
  ∃ cells', Instr.fill place cells ((i, v) :: rest) = Instr.fill place cells' rest ∧ cells'.size = cells.size ∧ ∀ q, cells'[q]? = if off ≤ q ∧ q < off + size then v.cells[q - off]? else cells[q]? := by
 obtain ⟨h1, h2⟩ := foldl_set off v.cells.toList 0 cells (by simp; omega)
 refine ⟨_, ?_, h1, fun q => ?_⟩
 ·rw [Instr.fill, hp]
  simp only
  rw [if_neg (by simp; omega)]
  congr 1
  rw [← Array.foldl_toList, Array.toList_zipIdx]
 ·have := h2 q
  simp only [Nat.add_zero, Array.length_toList, hv, Array.getElem?_toList] at this
  exact this
theorem fill_ok {place : Nat → Option (Nat × Nat)} : ∀ (vs : List (Nat × Value)) (az : List (Nat × AV)) (cells : Array Value) (cs : List AV), vs.length = az.length → (∀ (i : Nat) (x : Nat × Value) (y : Nat × AV), vs[i]? = some x → az[i]? = some y → x.1 = y.1 ∧ R m β x.2 y.2) →
  cells.size = cs.length → (∀ (i : Nat) (c : Value) (a : AV), cells[i]? = some c → cs[i]? = some a → c.oneCell' = true ∧ R m β c a) → okFill place cs.length az →
  ∃ r, Instr.fill place cells vs = some r ∧ r.size = (fillA place cs az).length ∧ ∀ (i : Nat) (c : Value) (a : AV), r[i]? = some c → (fillA place cs az)[i]? = some a → c.oneCell' = true ∧ R m β c a
 | [], [], cells, cs, _, _, hs, hc, _ => ⟨cells, rfl, hs, hc⟩
 | [], _ :: _, _, _, hl, _, _, _, _ => by simp at hl
 | _ :: _, [], _, _, hl, _, _, _, _ => by simp at hl
 | (i, v) :: vs, (j, a) :: az, cells, cs, hl, hr, hs, hc, hok => by
  obtain ⟨⟨hst, hp⟩, hok⟩ := hok
  obtain ⟨e, hra⟩ := hr 0 _ _ rfl rfl
  simp only at e
  subst e
  simp only at hra
  cases hpi : place i with
  | none => simp [hpi] at hp
  | some os =>
   obtain ⟨off, size⟩ := os
   simp only [hpi] at hp
   obtain ⟨h1, h2⟩ := hp
   obtain ⟨hc1, hc2⟩ := hra.cells hst
   obtain ⟨cells', f1, f2, f3⟩ := fill_step (cells := cells) (rest := vs) hpi (hc1.trans h1) (by omega)
   rw [f1, fillA, hpi]
   simp only [Option.getD_some]
   refine fill_ok vs az cells' _ (by simpa using hl) (fun q x y hx hy => hr (q + 1) x y (by simpa using hx) (by simpa using hy)) (by rw [f2, setR_len, hs]) (fun q c b hcq hbq => ?_) (by rw [setR_len]; exact hok)
   rw [f3 q] at hcq
   rw [setR_get _ _ _ _ (by omega)] at hbq
   by_cases hin : off ≤ q ∧ q < off + size
   ·rw [if_pos hin] at hcq
    rw [if_pos (by omega)] at hbq
    exact hc2 _ _ _ hcq hbq
   ·rw [if_neg hin] at hcq
    rw [if_neg (by omega)] at hbq
    exact hc q c b hcq hbq
theorem build_ok {t : TypeId} {vs : Array (Nat × Value)} {az : List (Nat × AV)} (H : HRel P w0 h k m β w) (hl : vs.size = az.length) (hr : ∀ (i : Nat) (x : Nat × Value) (y : Nat × AV), vs[i]? = some x → az[i]? = some y → x.1 = y.1 ∧ R m β x.2 y.2)
  (hz : zeroOk P t = true) (hk : (placesL P t).isSome = true ∨ (arT P t).isSome = true ∧ (P.info? (elT P t)).isSome = true) (hok : okFill (placeT P t) (zeroAV P t).length az) :
  VRes P w0 h k m β w nm (pure' (.st (fillA (placeT P t) (zeroAV P t) az))) (Instr.build t vs) := by
 obtain ⟨i, z, hi, hz0, hs, _, h1, h2⟩ := zeroOk_of hz
 rw [h2] at hok ⊢
 obtain ⟨hc1, hc2⟩ := constAV_cells (m := m) (β := β) h1
 obtain ⟨r, f1, f2, f3⟩ := fill_ok vs.toList az z.cells _ (by simpa using hl) (fun i x y hx hy => hr i x y (by simpa using hx) hy) hc1 hc2 hok
 have hb : P.built t vs.toList = some r := by
  unfold Program.built
  rw [hi]
  rcases hk with hk | ⟨hk, hk2⟩
  ·have hpt : ∀ l, placesL P t = some l → placeT P t = fun x => l[x]? := fun l hl => by funext x; simp [placeT, hl]
   obtain ⟨l, hl⟩ := Option.isSome_iff_exists.1 hk
   have hl' := hl
   unfold placesL at hl
   cases hu : P.underlying t with
   | none => simp [hu] at hl
   | some d =>
    cases d <;> simp [hu] at hl
    simp only [hz0, hl]
    rw [hpt l hl'] at f1
    simpa using f1
  ·obtain ⟨n, hn⟩ := Option.isSome_iff_exists.1 hk
   have hu := arT_of hn
   have hpl : placesL P t = none := by simp [placesL, hu]
   obtain ⟨ie, hie, hsz, _⟩ := info_of hk2
   have hpt : placeT P t = fun x => some (x * ie.size, ie.size) := by funext x; simp [placeT, hpl, hsz]
   rw [hpt] at f1
   simp only [hu, hz0, hie]
   exact f1
 refine VRes.same H (run_build w t vs r hb) rfl (.st f2 (fun q c hq => ?_) fun q c a hq ha => (f3 q c a hq ha).2)
 have hlt := (Array.getElem?_eq_some_iff.1 hq).1
 exact (f3 q c _ hq (List.getElem?_eq_getElem (by omega))).1
theorem fill_row {sz : Nat} : ∀ (vs : List (Nat × Value)) (s : Nat) (cells : Array Value), vs.map (·.1) = List.range' s vs.length → (∀ x ∈ vs, x.2.cells.size = sz) → (s + vs.length) * sz ≤ cells.size →
  ∃ r, Instr.fill (fun i => some (i * sz, sz)) cells vs = some r ∧ r.size = cells.size ∧ (∀ q, q < s * sz → r[q]? = cells[q]?) ∧ ∀ (i : Nat) (x : Nat × Value) (j : Nat), vs[i]? = some x → j < sz → r[(s + i) * sz + j]? = x.2.cells[j]?
 | [], s, cells, _, _, _ => ⟨cells, rfl, rfl, fun _ _ => rfl, fun i x j hx => by simp at hx⟩
 | (i, v) :: vs, s, cells, hi, hv, hl => by
  simp only [List.map_cons, List.length_cons, List.range'_succ, List.cons.injEq] at hi
  obtain ⟨rfl, hi⟩ := hi
  simp only [List.length_cons] at hl
  have hl1 : (i + 1) * sz ≤ (i + (vs.length + 1)) * sz := Nat.mul_le_mul_right _ (by omega)
  obtain ⟨cells', f1, f2, f3⟩ := fill_step (place := fun i => some (i * sz, sz)) (rest := vs) (cells := cells) (i := i) (v := v) (off := i * sz) (size := sz) rfl (hv (i, v) (by simp)) (by rw [Nat.add_mul] at hl1; omega)
  obtain ⟨r, g1, g2, g3, g4⟩ := fill_row vs (i + 1) cells' hi (fun x hx => hv x (by simp [hx])) (by rw [f2]; rw [show i + 1 + vs.length = i + (vs.length + 1) by omega]; exact hl)
  have hm : (i + 1) * sz = i * sz + sz := by rw [Nat.add_mul]; omega
  refine ⟨r, f1.trans g1, g2.trans f2, fun q hq => ?_, fun q x j hx hj => ?_⟩
  ·rw [g3 q (by omega), f3 q, if_neg (by omega)]
  ·cases q with
   | zero =>
    simp only [List.getElem?_cons_zero, Option.some.injEq] at hx
    subst hx
    rw [Nat.add_zero, g3 _ (by omega), f3, if_pos (by omega)]
    congr 1; omega
   | succ q =>
    have := g4 q x j (by simpa using hx) hj
    rw [show i + (q + 1) = i + 1 + q by omega]
    exact this
theorem HRel.perm0 (H : HRel P w0 h k m β w) (hbn : β nm = none) (hk : nm.1 < k) (e : TypeId) (b _len : Nat) : HRel P w0 (upd h nm (some (.perm e 0))) k m (updB β nm ⟨b, 0, some 0⟩) w :=
 H.upd1 (le_new hbn) hk H.ext (.rfl' m) H.mem ⟨rfl, .inl ⟨rfl, rfl⟩⟩ (fun hr => absurd ⟨rfl, rfl⟩ hr) fun _ _ _ _ _ _ _ => ⟨fun hr' => absurd ⟨rfl, rfl⟩ hr', rfl, fun _ => rfl⟩
theorem buildSlice_ok {t : TypeId} {len : Nat} {vs : Array (Nat × Value)} {az : List (Nat × AV)} (H : HRel P w0 h k m β w) (hbn : β nm = none) (hk : nm.1 < k) (hl : vs.size = az.length)
  (hr : ∀ (i : Nat) (x : Nat × Value) (y : Nat × AV), vs[i]? = some x → az[i]? = some y → x.1 = y.1 ∧ R m β x.2 y.2) (hok : okBuildSlice P t len az) : VRes P w0 h k m β w nm (effBuildSlice P nm t len az) (Instr.buildSlice t len vs) := by
 obtain ⟨hs, hidx, hpt, hmax, hmaxl, hz⟩ := hok
 obtain ⟨i, z, hi, hz0, hzs, hsi, h1, _⟩ := zeroOk_of hz
 have hI : (P.info? (elT P t)).isSome = true := by simp [hi]
 have hlen : az.length = len := by have := congrArg List.length hidx; simpa using this
 have hvl : vs.size = len := hl.trans hlen
 have hv1 : vs.toList.map (·.1) = List.range' 0 vs.toList.length := by
  have : vs.toList.map (·.1) = az.map (·.1) := by
   apply List.ext_getElem?
   intro q
   rw [List.getElem?_map, List.getElem?_map, Array.getElem?_toList]
   by_cases hq : q < vs.size
   ·rw [Array.getElem?_eq_getElem hq, List.getElem?_eq_getElem (by omega)]
    simp only [Option.map_some]
    rw [(hr q _ _ (Array.getElem?_eq_getElem hq) (List.getElem?_eq_getElem (by omega))).1]
   ·rw [Array.getElem?_eq_none (by omega), List.getElem?_eq_none (by omega)]; rfl
  rw [this, hidx, Array.length_toList, hvl, List.range_eq_range']
 have hpart : ∀ (q : Nat) (x : Nat × Value), vs[q]? = some x → ∃ y, az[q]? = some y ∧ RD m x.2 y.2.toD ∧ y.2.toD.cells.length = szT P (elT P t) := fun q x hx => by
  have hq := (Array.getElem?_eq_some_iff.1 hx).1
  have hy : az[q]? = some (az[q]'(by omega)) := List.getElem?_eq_getElem (by omega)
  obtain ⟨p1, p2⟩ := hpt _ (List.mem_of_getElem? hy)
  exact ⟨_, hy, (hr q x _ hx hy).2.toD (toD_of p1), p2⟩
 have hv2 : ∀ x ∈ vs.toList, x.2.cells.size = szT P (elT P t) := fun x hx => by
  obtain ⟨q, hq⟩ := List.mem_iff_getElem?.1 hx
  rw [Array.getElem?_toList] at hq
  obtain ⟨y, _, h2, h3⟩ := hpart q x hq
  rw [h2.cells.1, h3]
 have hrow : ∀ cells : Array Value, cells.size = len * szT P (elT P t) → ∃ r, Instr.fill (fun i => some (i * szT P (elT P t), szT P (elT P t))) cells vs.toList = some r ∧ r.size = len * szT P (elT P t) ∧
   ∀ (i : Nat) (x : Nat × Value) (j : Nat), vs[i]? = some x → j < szT P (elT P t) → r[i * szT P (elT P t) + j]? = x.2.cells[j]? := fun cells hcs => by
  obtain ⟨r, g1, g2, _, g4⟩ := fill_row vs.toList 0 cells hv1 hv2 (by rw [hcs]; simp [hvl])
  exact ⟨r, g1, g2.trans hcs, fun i x j hx hj => by have := g4 i x j (by simpa using hx) hj; rwa [Nat.zero_add] at this⟩
 have fin : ∀ r : Array Value, r.size = len * szT P (elT P t) → (∀ (i : Nat) (x : Nat × Value) (j : Nat), vs[i]? = some x → j < szT P (elT P t) → r[i * szT P (elT P t) + j]? = x.2.cells[j]?) →
   (Instr.buildSlice t len vs).run P w = .ok (.slice (some ⟨w.heap.size, 0, none⟩) len len) (w.alloc (.cells r (elT P t))) → VRes P w0 h k m β w nm (effBuildSlice P nm t len az) (Instr.buildSlice t len vs) := by
  intro r hrs hrc hrun
  have hone : ∀ (q : Nat) (c : Value), r[q]? = some c → c.oneCell' = true := fun q c hq => by
   have hlt := (Array.getElem?_eq_some_iff.1 hq).1
   have hpos : 0 < szT P (elT P t) := by
    rcases Nat.eq_zero_or_pos (szT P (elT P t)) with e | e
    ·rw [hrs, e] at hlt; omega
    ·exact e
   have hd : q / szT P (elT P t) < vs.size := by rw [hvl]; exact Nat.div_lt_of_lt_mul (by rw [Nat.mul_comm]; omega)
   have hx := Array.getElem?_eq_getElem hd
   have := hrc _ _ (q % szT P (elT P t)) hx (Nat.mod_lt _ hpos)
   rw [Nat.div_add_mod'] at this
   obtain ⟨y, _, h2, h3⟩ := hpart _ _ hx
   rw [hq] at this
   obtain ⟨h4, h5⟩ := h2.cells
   exact (h5 _ c _ this.symm (List.getElem?_eq_getElem (by rw [h3]; exact Nat.mod_lt _ hpos))).1
  have hH := H.row hbn hk (e := elT P t) (len := len) hrs hone
  refine ⟨_, _, _, _, hrun, Mem.add_le _ _ _, updB_le (le_new hbn), fun n hn => updB_none hn, hH, ?_⟩
  refine .own (p := ⟨w.heap.size, len, some len⟩) (.sl (sz := szT P (elT P t)) (by simp [hlen]) (Nat.le_refl _) ?_ ?_ ?_ ?_) (updB_self _ _ _) rfl (by simp [hlen]) fun _ => ⟨some ⟨w.heap.size, 0, none⟩, by simp [hlen], .inr rfl⟩
  ·unfold maxLen; omega
  ·intro x hx
   obtain ⟨y, hy, rfl⟩ := List.mem_map.1 hx
   exact (hpt y hy).2
  ·intro q j x d hx hd
   rw [List.getElem?_map, Option.map_eq_some_iff] at hx
   obtain ⟨y, hy, rfl⟩ := hx
   have hq : q < vs.size := by have := (List.getElem?_eq_some_iff.1 hy).1; omega
   have hxv := Array.getElem?_eq_getElem hq
   obtain ⟨y', hy', h2, h3⟩ := hpart q _ hxv
   rw [hy] at hy'; cases hy'
   have hj : j < szT P (elT P t) := by have := (List.getElem?_eq_some_iff.1 hd).1; omega
   have hc := hrc q _ j hxv hj
   obtain ⟨h4, h5⟩ := h2.cells
   have hjc : j < vs[q].2.cells.size := by omega
   rw [Array.getElem?_eq_getElem hjc] at hc
   refine ⟨vs[q].2.cells[j], ?_⟩
   rw [Mem.add_new _ _ (H.fresh (Nat.le_refl _) _), Nat.zero_add]
   exact hc
  ·intro q j x d c hx hd hcm
   rw [List.getElem?_map, Option.map_eq_some_iff] at hx
   obtain ⟨y, hy, rfl⟩ := hx
   have hq : q < vs.size := by have := (List.getElem?_eq_some_iff.1 hy).1; omega
   have hxv := Array.getElem?_eq_getElem hq
   obtain ⟨y', hy', h2, h3⟩ := hpart q _ hxv
   rw [hy] at hy'; cases hy'
   have hj : j < szT P (elT P t) := by have := (List.getElem?_eq_some_iff.1 hd).1; omega
   have hc := hrc q _ j hxv hj
   obtain ⟨h4, h5⟩ := h2.cells
   rw [Mem.add_new _ _ (H.fresh (Nat.le_refl _) _), Nat.zero_add, hc] at hcm
   exact (h5 j c d hcm hd).2.mono (Mem.add_le _ _ _)
 by_cases h0 : len * szT P (elT P t) = 0
 ·obtain ⟨r, g1, g2, g3⟩ := hrow #[] (by simp [h0])
  refine fin r g2 g3 ?_
  simp only [Instr.buildSlice, Sem.run_bind, run_underlying (slT_of hs), Result.andThen_ok, run_sizeOf' hI]
  rw [if_neg (by omega), if_pos h0]
  have : ((Array.range (len * szT P (elT P t))).map ((#[] : Array Value)[· % (#[] : Array Value).size]!)) = #[] := by simp [h0]
  simp only [Sem.run_bind, Sem.run_pure, Result.andThen_ok, this, g1]
  simp [newRow]
 ·obtain ⟨r, g1, g2, g3⟩ := hrow ((Array.range (len * szT P (elT P t))).map (z.cells[· % z.cells.size]!)) (by simp)
  refine fin r g2 g3 ?_
  simp only [Instr.buildSlice, Sem.run_bind, run_underlying (slT_of hs), Result.andThen_ok, run_sizeOf' hI]
  rw [if_neg (by omega), if_neg h0]
  simp only [Sem.run_bind, Sem.run_pure, Result.andThen_ok, run_zero hi hz0, g1]
  simp [newRow]
end
section
variable {P : Program} {w0 : GW} {w : World} {h : Heap} {k : Nat} {m : Mem} {β : Bl} {nm : Nm}
theorem RD.piece {v : Value} {xs : List DV} (hr : RD m v (.sl xs)) {sz l hh : Nat} (hsz : ∀ x ∈ xs, x.cells.length = sz) (h1 : l ≤ hh) (h2 : hh ≤ xs.length) :
  ∃ a cap, v = .slice a xs.length cap ∧ xs.length ≤ cap ∧ cap ≤ maxLen ∧ ∀ mm, hh ≤ mm → mm ≤ cap → RD m (.slice (if mm = l then a else a.map (·.add (l * sz))) (hh - l) (mm - l)) (.sl ((xs.take hh).drop l)) := by
 cases hr with
 | nil =>
  refine ⟨_, 0, rfl, Nat.le_refl _, by simp [maxLen], fun mm h3 h4 => ?_⟩
  simp at h2
  have e1 : mm = 0 := by omega
  have e2 : l = 0 := by omega
  subst e1; subst e2; subst h2
  exact .nil
 | @sl b o n cap sz' _ hn hcap hmax hsz' hs hc =>
  refine ⟨_, cap, by rw [hn], by omega, hmax, fun mm h3 h4 => ?_⟩
  by_cases he : mm = l
  ·have e1 : hh = l := by omega
   subst he
   subst e1
   rw [if_pos rfl]
   have : (xs.take hh).drop hh = [] := by rw [List.drop_eq_nil_iff]; simp; omega
   rw [this]
   refine .sl (sz := sz) (by simp) (by omega) (by unfold maxLen; omega) (by simp) (fun i j x d hx => by simp at hx) (fun i j x d c hx => by simp at hx)
  ·rw [if_neg he]
   simp only [Option.map_some, add_none']
   have hget : ∀ (i : Nat) (x : DV), ((xs.take hh).drop l)[i]? = some x → xs[l + i]? = some x := fun i x hx => by
    rw [List.getElem?_drop, List.getElem?_take] at hx
    split at hx
    ·exact hx
    ·cases hx
   have hes : ∀ (i : Nat) (x : DV), xs[i]? = some x → sz' = sz := fun i x hx => (hsz' x (List.mem_of_getElem? hx)).symm.trans (hsz x (List.mem_of_getElem? hx))
   refine .sl (sz := sz) (by simp; omega) (by omega) (by omega) (fun x hx => hsz x (List.mem_of_mem_take (List.mem_of_mem_drop hx))) (fun i j x d hx hd => ?_) (fun i j x d c hx hd hcm => ?_)
   ·have hx' := hget i x hx
    have := hes _ _ hx'
    subst this
    obtain ⟨c, h5⟩ := hs _ _ _ _ hx' hd
    exact ⟨c, by rw [← h5]; congr 1; rw [Nat.add_mul]; omega⟩
   ·have hx' := hget i x hx
    have := hes _ _ hx'
    subst this
    refine hc _ _ _ _ _ hx' hd (by rw [← hcm]; congr 1; rw [Nat.add_mul]; omega)
theorem run_sliceBound' (kk : IntKind) (i : Int) (y : Nat) (code : BoundsCode) (h0 : 0 ≤ i) (h1 : i ≤ y) (w : World) : (Instr.sliceBound (.int kk i) y code).run P w = .ok i.toNat w := by
 rw [run_sliceBound_if, if_pos ⟨h0, h1⟩]
theorem bounds_ok {len cap : Nat} {lo hi mx : Option Value} {alo ahi amx : Option AV} (hlo : ∀ v, lo = some v → ∃ a kk, alo = some a ∧ v = .int kk (intOf' a)) (hlo' : lo = none → alo = none)
  (hhi : ∀ v, hi = some v → ∃ a kk, ahi = some a ∧ v = .int kk (intOf' a)) (hhi' : hi = none → ahi = none)
  (hmx : ∀ v, mx = some v → ∃ a kk, amx = some a ∧ v = .int kk (intOf' a)) (hmx' : mx = none → amx = none) (he : ∀ a, amx = some a → ∃ b, ahi = some b ∧ intOf' a = intOf' b)
  (h0 : 0 ≤ (alo.map intOf').getD 0) (h1 : (alo.map intOf').getD 0 ≤ (ahi.map intOf').getD len) (h2 : (ahi.map intOf').getD len ≤ len) (h3 : len ≤ cap) (sl : Bool) :
  (Instr.sliceBounds sl len cap lo hi mx).run P w = .ok (((alo.map intOf').getD 0).toNat, ((ahi.map intOf').getD len).toNat, if amx.isSome then ((ahi.map intOf').getD len).toNat else cap) w := by
 cases mx with
 | none =>
  have := hmx' rfl; subst this
  cases hi with
  | none =>
   have := hhi' rfl; subst this
   cases lo with
   | none => have := hlo' rfl; subst this; simp [Instr.sliceBounds]
   | some v =>
    obtain ⟨a, kk, rfl, rfl⟩ := hlo v rfl
    simp only [Option.map_some, Option.getD_some, Option.map_none, Option.getD_none] at h0 h1
    simp [Instr.sliceBounds, run_sliceBound' kk _ len _ h0 h1]
  | some u =>
   obtain ⟨b, kk, rfl, rfl⟩ := hhi u rfl
   simp only [Option.map_some, Option.getD_some] at h1 h2
   have hb := run_sliceBound' (P := P) kk (intOf' b) cap (if sl then .sliceAcap else .sliceAlen) (by omega) (by omega) w
   cases lo with
   | none => have := hlo' rfl; subst this; simp [Instr.sliceBounds, hb]
   | some v =>
    obtain ⟨a, kk', rfl, rfl⟩ := hlo v rfl
    simp only [Option.map_some, Option.getD_some] at h0 h1
    simp [Instr.sliceBounds, hb, run_sliceBound' kk' (intOf' a) (intOf' b).toNat .sliceB h0 (by omega)]
 | some x =>
  obtain ⟨c, kk'', rfl, rfl⟩ := hmx x rfl
  obtain ⟨b, rfl, hcb⟩ := he c rfl
  cases hi with
  | none => have := hhi' rfl; cases this
  | some u =>
   obtain ⟨b', kk, hb', rfl⟩ := hhi u rfl
   cases hb'
   simp only [Option.map_some, Option.getD_some] at h1 h2
   have hb := run_sliceBound' (P := P) kk'' (intOf' c) cap (if sl then .slice3Acap else .slice3Alen) (by omega) (by omega) w
   have hb2 := run_sliceBound' (P := P) kk (intOf' b) (intOf' b).toNat .slice3B (by omega) (by omega) w
   rw [hcb] at hb
   cases lo with
   | none => have := hlo' rfl; subst this; simp [Instr.sliceBounds, hcb, hb, hb2]
   | some v =>
    obtain ⟨a, kk', rfl, rfl⟩ := hlo v rfl
    simp only [Option.map_some, Option.getD_some] at h0 h1
    simp [Instr.sliceBounds, hcb, hb, hb2, run_sliceBound' kk' (intOf' a) (intOf' b).toNat .slice3C h0 (by omega)]
theorem slice_ok {t : TypeId} {v : Value} {a : AV} {lo hi mx : Option Value} {alo ahi amx : Option AV} (H : HRel P w0 h k m β w) (hbn : β nm = none) (hk : nm.1 < k) (hv : R m β v a)
  (hlo : ∀ v, lo = some v → ∃ a, alo = some a ∧ R m β v a) (hlo' : lo = none → alo = none) (hhi : ∀ v, hi = some v → ∃ a, ahi = some a ∧ R m β v a) (hhi' : hi = none → ahi = none)
  (hmx : ∀ v, mx = some v → ∃ a, amx = some a ∧ R m β v a) (hmx' : mx = none → amx = none) (hok : okSlice P t a alo ahi amx) (he : hasT P (elT P t) = true) :
  VRes P w0 h k m β w nm (effSlice nm a alo ahi amx P t) (Instr.sliceAt t v lo hi mx) := by
 obtain ⟨i1, i2, i3, h0, hok⟩ := hok
 have ilo : ∀ v, lo = some v → ∃ a kk, alo = some a ∧ v = .int kk (intOf' a) := fun v hv => by
  obtain ⟨a, ha, hr⟩ := hlo v hv; obtain ⟨kk, hk⟩ := hr.int (i1 a ha); exact ⟨a, kk, ha, hk⟩
 have ihi : ∀ v, hi = some v → ∃ a kk, ahi = some a ∧ v = .int kk (intOf' a) := fun v hv => by
  obtain ⟨a, ha, hr⟩ := hhi v hv; obtain ⟨kk, hk⟩ := hr.int (i2 a ha); exact ⟨a, kk, ha, hk⟩
 have imx : ∀ v, mx = some v → ∃ a kk, amx = some a ∧ v = .int kk (intOf' a) := fun v hv => by
  obtain ⟨a, ha, hr⟩ := hmx v hv; obtain ⟨kk, hk⟩ := hr.int (i3 a ha).1; exact ⟨a, kk, ha, hk⟩
 have hsl : ∀ (a0 : Option Addr) (n cap : Nat), slT P t = true → v = .slice a0 n cap → (alo.map intOf').getD 0 ≤ (ahi.map intOf').getD n → (ahi.map intOf').getD n ≤ n → n ≤ cap →
   (Instr.sliceAt t v lo hi mx).run P w = .ok (.slice (if (if amx.isSome then ((ahi.map intOf').getD n).toNat else cap) = ((alo.map intOf').getD 0).toNat then a0 else a0.map (·.add (((alo.map intOf').getD 0).toNat * szT P (elT P t))))
    (((ahi.map intOf').getD n).toNat - ((alo.map intOf').getD 0).toNat) ((if amx.isSome then ((ahi.map intOf').getD n).toNat else cap) - ((alo.map intOf').getD 0).toNat)) w := by
  intro a0 n cap hs hv h1 h2 h3
  subst hv
  have hb := bounds_ok (P := P) (w := w) ilo hlo' ihi hhi' imx hmx' (fun a ha => (i3 a ha).2) h0 h1 h2 h3 true
  simp only [Instr.sliceAt, Instr.slice, Sem.run_bind, run_underlying (slT_of hs), Result.andThen_ok, hb, run_sizeOf' (hasT_info he), Sem.run_pure]
 have hlist : ∀ xs, slT P t = true → RD m v (.sl xs) → (alo.map intOf').getD 0 ≤ (ahi.map intOf').getD xs.length → (ahi.map intOf').getD xs.length ≤ xs.length → (∀ y ∈ xs, y.cells.length = szT P (elT P t)) →
   VRes P w0 h k m β w nm (pure' (.d (.sl ((xs.take ((ahi.map intOf').getD xs.length).toNat).drop ((alo.map intOf').getD 0).toNat))))
    (Instr.sliceAt t v lo hi mx) := by
  intro xs hs hr h1 h2 hsz
  obtain ⟨a0, cap, hv', hc1, hc2, hp⟩ := hr.piece (l := ((alo.map intOf').getD 0).toNat) (hh := ((ahi.map intOf').getD xs.length).toNat) hsz (by omega) (by omega)
  have hrun := hsl a0 xs.length cap hs hv' h1 h2 hc1
  cases amx with
  | none => exact VRes.same H hrun rfl (.d (hp cap (by omega) (Nat.le_refl _)))
  | some mm =>
   simp only [Option.isSome_some, if_true] at hrun
   have hq := hp _ (Nat.le_refl _) (by omega)
   exact VRes.same H hrun rfl (.d hq)
 cases hv with
 | d hd =>
  cases hd with
  | nil => obtain ⟨h1, _, h3, h4, h5⟩ := hok; exact hlist [] h1 .nil h3 h4 h5
  | sl hn hcap hmax hsz hs hc => obtain ⟨h1, _, h3, h4, h5⟩ := hok; exact hlist _ h1 (.sl hn hcap hmax hsz hs hc) h3 h4 h5
  | st => obtain ⟨_, h2, _⟩ := hok; simp [isList] at h2
  | @v x hx =>
   cases v with
   | string s =>
    obtain ⟨h1, rfl, h3, h4⟩ := hok
    have emx : mx = none := by
     cases mx with
     | none => rfl
     | some x => obtain ⟨a, ha, _⟩ := hmx x rfl; cases ha
    subst emx
    have hb := bounds_ok (P := P) (w := w) ilo hlo' ihi hhi' imx hmx' (fun a ha => (i3 a ha).2) h0 h3 h4 (Nat.le_refl s.size) false
    refine VRes.same (v := .string (s.extract ((alo.map intOf').getD 0).toNat ((ahi.map intOf').getD s.size).toNat)) H ?_ rfl (.d (.v rfl))
    simp only [Instr.sliceAt, Instr.slice, Sem.run_bind, run_underlying (strT_of h1), Result.andThen_ok, hb, Sem.run_pure, Option.isSome_none, Bool.false_eq_true, if_false]
   | _ => obtain ⟨_, h2, _⟩ := hok; simp [isList] at h2
 | nil => obtain ⟨h1, _, h3, h4, h5⟩ := hok; exact hlist [] h1 .nil h3 h4 h5
 | own hr hb hv hl ha => obtain ⟨h1, _, h3, h4, h5⟩ := hok; exact hlist _ h1 hr h3 h4 h5
 | @arr n off len cap o p hb hver hc hm ho =>
  obtain ⟨h1, rfl, h3, h4⟩ := hok
  have hrun := hsl _ len cap h1 rfl h3 h4 hc
  simp only [Option.isSome_none, Bool.false_eq_true, if_false] at hrun
  by_cases he' : cap = ((alo.map intOf').getD 0).toNat
  ·rw [if_pos he'] at hrun
   refine VRes.same H hrun rfl (.arr hb hver (by omega) (by omega) (.inl (by omega)))
  ·rw [if_neg he'] at hrun
   simp only [Option.map_some, add_none'] at hrun
   refine VRes.same H hrun rfl (.arr hb hver (by omega) (by omega) ?_)
   rcases ho with ho | ho
   ·left; omega
   ·right; rw [ho]
 | _ => obtain ⟨_, h2, _⟩ := hok; simp [isList] at h2
structure NW (m : Mem) (sz : Nat) (news : List Value) (ys : List DV) : Prop where
 len : news.length = ys.length * sz
 one : ∀ c ∈ news, c.oneCell' = true
 get : ∀ (i j : Nat) (x d : DV), ys[i]? = some x → x.cells[j]? = some d → j < sz ∧ ∃ c, news[i * sz + j]? = some c ∧ RD m c d
theorem idx_lt {i j n sz : Nat} (hi : i < n) (hj : j < sz) : i * sz + j < n * sz := by
 have : (i + 1) * sz ≤ n * sz := Nat.mul_le_mul_right _ hi
 rw [Nat.add_mul] at this; omega
theorem loaded {v : Value} {xs : List DV} {sz : Nat} (hr : RD m v (.sl xs)) (hsz : ∀ x ∈ xs, x.cells.length = sz) (hone : ∀ b o v, m b o = some v → v.oneCell' = true) :
  ∃ a cap news, v = .slice a xs.length cap ∧ xs.length ≤ cap ∧ cap ≤ maxLen ∧ NW m sz news xs ∧ (∀ w : World, (∀ b o v, m b o = some v → w.cell? ⟨b, o, none⟩ = some v) → (Builtin.firstCells sz xs.length v).run P w = .ok news.toArray w) ∧ (a = none → cap = 0) := by
 cases hr with
 | @nil a => exact ⟨a, 0, [], rfl, Nat.le_refl _, by simp [maxLen], ⟨by simp, by simp, fun i j x d hx => by simp at hx⟩, fun _ _ => by cases a <;> simp [Builtin.firstCells, loadCells, loadCellsFrom], fun _ => rfl⟩
 | @sl b o n cap sz' _ hn hcap hmax hsz' hs hc =>
  have hcell : ∀ q, q < xs.length * sz → ∃ c x d, m b (o + q) = some c ∧ xs[q / sz]? = some x ∧ x.cells[q % sz]? = some d ∧ RD m c d := fun q hq => by
   have hpos : 0 < sz := by
    rcases Nat.eq_zero_or_pos sz with e | e
    ·rw [e] at hq; omega
    ·exact e
   have hd : q / sz < xs.length := Nat.div_lt_of_lt_mul (by rw [Nat.mul_comm]; omega)
   have hx := List.getElem?_eq_getElem hd
   have hl := hsz _ (List.getElem_mem hd)
   have he : sz' = sz := (hsz' _ (List.getElem_mem hd)).symm.trans hl
   subst he
   have hj : q % sz' < xs[q / sz'].cells.length := by rw [hl]; exact Nat.mod_lt _ hpos
   have hdd := List.getElem?_eq_getElem hj
   obtain ⟨c, h1⟩ := hs _ _ _ _ hx hdd
   have h2 := hc _ _ _ _ _ hx hdd h1
   rw [Nat.add_assoc, Nat.div_add_mod'] at h1
   exact ⟨c, _, _, h1, hx, hdd, h2⟩
  have hf : ∀ w : World, (∀ b o v, m b o = some v → w.cell? ⟨b, o, none⟩ = some v) → ∀ q, q < xs.length * sz → w.cell? ((⟨b, o, none⟩ : Addr).add q) = some ((m b (o + q)).getD undef) := fun w hmem q hq => by
   obtain ⟨c, _, _, h1, _⟩ := hcell q hq
   rw [add_none', h1]; exact hmem _ _ _ h1
  refine ⟨some ⟨b, o, none⟩, cap, (List.range (xs.length * sz)).map fun q => (m b (o + q)).getD undef, by rw [hn], by omega, hmax, ⟨by simp, fun c hc => ?_, fun i j x d hx hd => ?_⟩, ?_, fun h => by cases h⟩
  ·obtain ⟨q, hq, rfl⟩ := List.mem_map.1 hc
   obtain ⟨c, _, _, h1, _⟩ := hcell q (List.mem_range.1 hq)
   rw [h1]; exact hone _ _ _ h1
  ·have hj : j < sz := by have := (List.getElem?_eq_some_iff.1 hd).1; have := hsz x (List.mem_of_getElem? hx); omega
   have hi : i < xs.length := (List.getElem?_eq_some_iff.1 hx).1
   refine ⟨hj, ?_⟩
   have hq := idx_lt hi hj
   obtain ⟨c, x', d', h1, h2, h3, h4⟩ := hcell _ hq
   rw [show (i * sz + j) / sz = i by rw [Nat.mul_comm, Nat.mul_add_div (by omega)]; simp [Nat.div_eq_of_lt hj]] at h2
   rw [show (i * sz + j) % sz = j by rw [Nat.mul_comm, Nat.mul_add_mod]; exact Nat.mod_eq_of_lt hj] at h3
   rw [hx] at h2; cases h2
   rw [hd] at h3; cases h3
   refine ⟨c, ?_, h4⟩
   rw [List.getElem?_map, List.getElem?_range hq]
   simp [h1]
  ·intro w hmem
   show (loadCells ⟨b, o, none⟩ (xs.length * sz)).run P w = _
   rw [run_loadCells w _ _ _ (hf w hmem)]
end
section
variable {P : Program} {w0 : GW} {w : World} {h : Heap} {k : Nat} {m : Mem} {β : Bl} {nm : Nm}
theorem RD.append {b cap sz : Nat} {xs ys : List DV} (hcap : (xs ++ ys).length ≤ cap) (hmax : cap ≤ maxLen) (h1 : ∀ x ∈ xs, x.cells.length = sz) (h2 : ∀ x ∈ ys, x.cells.length = sz)
  (hx : ∀ (i j : Nat) (x d : DV), xs[i]? = some x → x.cells[j]? = some d → ∃ c, m b (i * sz + j) = some c ∧ RD m c d)
  (hy : ∀ (i j : Nat) (x d : DV), ys[i]? = some x → x.cells[j]? = some d → ∃ c, m b ((xs.length + i) * sz + j) = some c ∧ RD m c d) : RD m (.slice (some ⟨b, 0, none⟩) (xs ++ ys).length cap) (.sl (xs ++ ys)) := by
 have key : ∀ (i j : Nat) (x d : DV), (xs ++ ys)[i]? = some x → x.cells[j]? = some d → ∃ c, m b (0 + i * sz + j) = some c ∧ RD m c d := fun i j x d he hd => by
  rw [Nat.zero_add]
  by_cases hi : i < xs.length
  ·rw [List.getElem?_append_left hi] at he
   exact hx i j x d he hd
  ·rw [List.getElem?_append_right (by omega)] at he
   have := hy (i - xs.length) j x d he hd
   rwa [show xs.length + (i - xs.length) = i by omega] at this
 refine .sl (sz := sz) rfl hcap hmax (fun x hx => ?_) (fun i j x d he hd => ?_) fun i j x d c he hd hc => ?_
 ·rcases List.mem_append.1 hx with h | h
  ·exact h1 x h
  ·exact h2 x h
 ·obtain ⟨c, h3, _⟩ := key i j x d he hd; exact ⟨c, h3⟩
 ·obtain ⟨c', h3, h4⟩ := key i j x d he hd
  rw [hc] at h3; cases h3; exact h4
theorem source {v : Value} {x : AV} {sz : Nat} (H : HRel P w0 h k m β w) (hv : R m β v x)
  (hok : okSrc sz h x) :
  ∃ news, NW m sz news (newsOf h x) ∧ (∀ y ∈ newsOf h x, y.cells.length = sz) ∧ (∀ w, (Builtin.lenOf v).run P w = .ok (newsOf h x).length w) ∧
   (Builtin.firstCells sz (newsOf h x).length v).run P w = .ok news.toArray w ∧ (Builtin.firstCells sz (newsOf h x).length v).run P w.drew = .ok news.toArray w.drew := by
 have hlist : ∀ ys, newsOf h x = ys → RD m v (.sl ys) → (∀ y ∈ ys, y.cells.length = sz) → ∃ news, NW m sz news (newsOf h x) ∧ (∀ y ∈ newsOf h x, y.cells.length = sz) ∧ (∀ w, (Builtin.lenOf v).run P w = .ok (newsOf h x).length w) ∧
   (Builtin.firstCells sz (newsOf h x).length v).run P w = .ok news.toArray w ∧ (Builtin.firstCells sz (newsOf h x).length v).run P w.drew = .ok news.toArray w.drew := by
  intro ys e hr hsz
  rw [e]
  obtain ⟨a, cap, news, rfl, _, _, hN, h1, _⟩ := loaded (P := P) hr hsz (fun b o v hm => (H.mem b o v hm).2)
  exact ⟨news, hN, hsz, fun w => by simp [Builtin.lenOf], h1 w (fun b o v hm => (H.mem b o v hm).1), h1 w.drew (fun b o v hm => (H.mem b o v hm).1)⟩
 cases hv with
 | d hd =>
  obtain ⟨h1, h2⟩ := hok
  cases hd with
  | nil => exact hlist [] rfl .nil h2
  | sl hn hcap hmax hsz hs hc => exact hlist _ rfl (.sl hn hcap hmax hsz hs hc) h2
  | _ => simp [isList] at h1
 | nil => exact hlist [] rfl .nil hok.2
 | own hr hb hv hl ha => exact hlist _ rfl hr hok.2
 | @arr n off len cap o p hb hver hc hm ho =>
  obtain ⟨his, rfl, hl, hd⟩ := hok
  obtain ⟨e, cs, hn, hcs, _⟩ := cells_of his
  rw [hcs] at hl hd
  have hne : newsOf h (.arr n off len) = ((cs.drop off).take len).map AV.toD := by simp [newsOf, hcs]
  have hlen : (newsOf h (.arr n off len)).length = len := by rw [hne]; simp; omega
  obtain ⟨q, hq, _, c, c1, c2, c3, c4⟩ := H.obj n _ hn
  rw [hb] at hq; cases hq
  have hcell : ∀ j, j < len → ∃ u, c[off + j]? = some u ∧ w.cell? ⟨p.1, off + j, none⟩ = some u ∧ u.oneCell' = true ∧ RD m u (cs.getD (off + j) .junk).toD := fun j hj => by
   have hj' : off + j < c.size := by omega
   have h1 : c[off + j]? = some c[off + j] := Array.getElem?_eq_getElem hj'
   have h2 : cs[off + j]? = some (cs[off + j]'(by omega)) := List.getElem?_eq_getElem (by omega)
   obtain ⟨h3, h4⟩ := c3 (off + j) _ _ h1 h2
   refine ⟨_, h1, by simp [World.cell?, c1], h3, ?_⟩
   rw [List.getD_eq_getElem?_getD, h2]
   have hm : cs[off + j]'(by omega) ∈ (cs.drop off).take len := List.mem_of_getElem? (i := j) (by rw [List.getElem?_take, if_pos hj, List.getElem?_drop]; exact h2)
   exact h4.toD (toD_of (hd _ hm).1)
  have hone : ∀ y ∈ newsOf h (.arr n off len), y.cells.length = 1 := fun y hy => by
   rw [hne] at hy
   obtain ⟨a, ha, rfl⟩ := List.mem_map.1 hy
   exact (hd a ha).2
  refine ⟨(List.range len).map fun j => (c[off + j]?).getD undef, ⟨by rw [hlen]; simp, fun u hu => ?_, fun i j x d hx hd' => ?_⟩, hone, fun w => by rw [hlen]; simp [Builtin.lenOf], ?_, ?_⟩
  ·obtain ⟨j, hj, rfl⟩ := List.mem_map.1 hu
   obtain ⟨u, h1, _, h2, _⟩ := hcell j (List.mem_range.1 hj)
   rw [h1]; exact h2
  ·have hi : i < len := by have := (List.getElem?_eq_some_iff.1 hx).1; omega
   have hl1 := hone x (List.mem_of_getElem? hx)
   have hj : j < x.cells.length := (List.getElem?_eq_some_iff.1 hd').1
   have hj0 : j = 0 := by omega
   subst hj0
   refine ⟨by omega, ?_⟩
   obtain ⟨u, h1, _, _, h2⟩ := hcell i hi
   refine ⟨u, by rw [List.getElem?_map, List.getElem?_range (by omega)]; simp [h1], ?_⟩
   rw [hne, List.getElem?_map, List.getElem?_take, if_pos hi, List.getElem?_drop] at hx
   have h2' : cs[off + i]? = some (cs[off + i]'(by omega)) := List.getElem?_eq_getElem (by omega)
   rw [h2'] at hx
   simp only [Option.map_some, Option.some.injEq] at hx
   rw [List.getD_eq_getElem?_getD, h2'] at h2
   simp only [Option.getD_some, hx] at h2
   have hcl := h2.cells
   cases h2 with
   | v hv1 => simp only [DV.cells, List.getElem?_cons_zero, Option.some.injEq] at hd'; subst hd'; exact .v hv1
   | nil => simp only [DV.cells, List.getElem?_cons_zero, Option.some.injEq] at hd'; subst hd'; exact .nil
   | sl a1 a2 a3 a4 a5 a6 => simp only [DV.cells, List.getElem?_cons_zero, Option.some.injEq] at hd'; subst hd'; exact .sl a1 a2 a3 a4 a5 a6
   | st => obtain ⟨u', h1', _, h3', _⟩ := hcell i hi; rw [h1] at h1'; cases h1'; simp [Value.oneCell'] at h3'
  all_goals
   rw [hlen]
   rcases ho with ho | ho
   ·subst ho
    simp [Builtin.firstCells, loadCells, loadCellsFrom]
   ·subst ho
    show (loadCells _ (len * 1)).run P _ = _
    rw [run_loadCells _ _ (len * 1) (fun j => (c[o + j]?).getD undef) (fun j hj => ?_)]
    ·simp
    ·obtain ⟨u, h1, h2, _⟩ := hcell j (by omega)
     rw [add_none', h1]
     exact h2
 | _ => obtain ⟨h1, _⟩ := hok; simp [isList] at h1
end
end Go.Proofs.YtmeekpinkfpnhabDoor

/- A function's contract from its body. -/
import Derived.Test.YtmeekpinkfpnhabDoorP03
set_option linter.all false
namespace Go.Proofs.YtmeekpinkfpnhabDoor
open Go.RowKit
section
variable {P : Program} {w0 : GW} {w : World} {m : Mem} {β : Bl} {nm : Nm} {s : St} {a : Act} {n : Nat}
theorem evs_ok (hT : TRel m β s.t a.tmps) (hn : a.tmps.size = n) {xs : Array Operand} (hxs : ∀ x ∈ xs, opndOk n x = true) :
  (xs.map a.eval).size = (xs.toList.map s.ev).length ∧ ∀ (i : Nat) (v : Value) (b : AV), (xs.map a.eval)[i]? = some v → (xs.toList.map s.ev)[i]? = some b → R m β v b := by
 refine ⟨by simp, fun i v b hv hb => ?_⟩
 rw [Array.getElem?_map, Option.map_eq_some_iff] at hv
 rw [List.getElem?_map, Option.map_eq_some_iff] at hb
 obtain ⟨p, hp, rfl⟩ := hv
 obtain ⟨q, hq, rfl⟩ := hb
 rw [Array.getElem?_toList, hp] at hq
 cases hq
 exact ev_ok hT hn (hxs p (Array.mem_of_getElem? hp))
theorem R.bool {v : Value} {b : AV} (hv : R m β v b) (ha : isBool b = true) : v = .bool (boolOf' b) := by
 cases hv with
 | d hd =>
  cases hd with
  | v _ => cases v <;> simp_all [isBool, boolOf']
  | _ => simp [isBool] at ha
 | _ => simp [isBool] at ha
theorem isNil_run {v : Value} {A : AV} {c : Bool} (hv : R m β v A) (hc : isNilA A = some c) : ∃ a n cap, v = .slice a n cap ∧ a.isNone = c := by
 unfold isNilA at hc
 split at hc
 ·cases hc; cases hv; exact ⟨_, _, _, rfl, rfl⟩
 ·cases hc; cases hv; exact ⟨_, _, _, rfl, rfl⟩
 ·cases hc
  cases hv with
  | d hd =>
   generalize hx : DV.sl _ = y at hd
   cases hd with
   | nil => cases hx
   | sl => exact ⟨_, _, _, rfl, rfl⟩
   | _ => cases hx
 ·cases hc
theorem nil_run {b : BinOp} {t e : TypeId} {v u : Value} {A B : AV} {c : Bool} (ht : P.underlying t = some (.slice e)) (hv : R m β v A) (hu : R m β u B) (hc : nilCmp b A B = some c) (x y : Operand) : (do eqGuard b t x y v u; binOp b t v u : Sem Value).run P w = .ok (.bool c) w := by
 unfold nilCmp at hc
 split at hc
 ·cases hu
  have eq : ∀ (a : Option Addr) (n cap : Nat), (Op.equal t (.slice a n cap) (.slice none 0 0)).run P w = .ok a.isNone w := by
   intro a n cap
   have : ∀ d, (Op.equalIn (d + 1) t (.slice a n cap) (.slice none 0 0)).run P w = .ok a.isNone w := fun d => by
    cases a <;> simp [Op.equalIn, run_underlying ht]
   obtain ⟨d, hd⟩ : ∃ d, Op.maxDepth = d + 1 := ⟨9999, rfl⟩
   unfold Op.equal
   rw [hd]; exact this d
  split at hc
  ·obtain ⟨a, n, cap, rfl, rfl⟩ := isNil_run hv hc
   simp [eqGuard, binOp, eq]
  ·obtain ⟨c', h1, rfl⟩ := Option.map_eq_some_iff.1 hc
   obtain ⟨a, n, cap, rfl, rfl⟩ := isNil_run hv h1
   simp [eqGuard, binOp, eq]
  ·cases hc
 ·cases hc
theorem nilI_run {b : BinOp} {t : TypeId} {v : Value} {A : AV} {c : Bool} {x y : Operand} (ht : P.underlying t = some (.interface (P.methodsAt t))) (hv : R m β v A) (hc : nilI b y A = some c) : (do eqGuard b t x y v (a.eval y); binOp b t v (a.eval y) : Sem Value).run P w = .ok (.bool c) w := by
 have eg : ∀ (q : BinOp) (u : Operand), (eqGuard q t u (.const .nilIface) .nilIface .nilIface : Sem Unit) = pure () := by intro q u; cases q <;> cases u <;> rfl
 unfold nilI at hc
 split at hc
 ·have hA : ∀ q, isNilI A = some q → (q = true ∧ v = .nilIface) ∨ (q = false ∧ ∃ u p, v = .iface u p) := by
   intro q hq
   unfold isNilI at hq
   split at hq
   ·cases hq; cases hv with | d h => cases h with | v _ => exact .inl ⟨rfl, rfl⟩
   ·cases hq; cases hv with | d h => cases h with | v _ => exact .inr ⟨rfl, _, _, rfl⟩
   ·cases hq; cases hv with | ifc => exact .inr ⟨rfl, _, _, rfl⟩
   ·cases hq
  split at hc
  ·rcases hA c hc with ⟨rfl, rfl⟩ | ⟨rfl, u, p, rfl⟩
   ·simp [Act.eval, eg, run_eql_nil_nil _ t ht]
   ·simp [Act.eval, run_eql_held_nil _ t u p ht, eqGuard]
  ·obtain ⟨q, h1, rfl⟩ := Option.map_eq_some_iff.1 hc
   rcases hA q h1 with ⟨rfl, rfl⟩ | ⟨rfl, u, p, rfl⟩
   ·simp [Act.eval, eg, run_neq_nil_nil _ t ht]
   ·simp [Act.eval, run_neq_held_nil _ t u p ht, eqGuard]
  ·cases hc
 ·cases hc
theorem conv_ok {h : Heap} {k : Nat} {s d : TypeId} {v : Value} {A : AV} (H : HRel P w0 h k m β w) (hv : R m β v A) (hok : okConv P s d A) : VRes P w0 h k m β w nm (pure' (convA P d A)) (convert s d v) := by
 unfold okConv at hok
 split at hok
 ·rename_i kk n
  cases hv with
  | d hd =>
   cases hd with
   | v _ => exact VRes.same (v := .int (P.intKind d) ((P.intKind d).wrap n)) H (run_convert_int w s d kk n hok.1 hok.2) rfl (.d (.v rfl))
 ·rename_i hne
  obtain ⟨h1, h2, h3, h4, h5, h6⟩ := hok
  have e : convA P d A = .d (.v (.string ⟨((listOf A).map byteOf).toArray⟩)) := by
   unfold convA
   split
   ·exact absurd rfl (hne _ _)
   ·rfl
  rw [e]
  have hrd : RD m v (.sl (listOf A)) := hv.toD (by cases A with | d x => (cases x <;> simp_all [isList, AV.toD?, listOf]) | _ => simp_all [isList, AV.toD?, listOf])
  generalize listOf A = xs at *
  cases hrd with
  | nil => exact absurd rfl h5
  | @sl b o n cap sz _ hn hcap hmax hsz hs hc =>
   have hs1 : sz = 1 := by
    cases xs with
    | nil => exact absurd rfl h5
    | cons x xs =>
     have := hsz x (by simp)
     have hb := h6 x (by simp)
     cases x with
     | v _ => exact this.symm
     | _ => simp [isByte] at hb
   subst hs1
   have hlen : n = (xs.map byteOf).length := by simp [hn]
   subst hlen
   refine VRes.same (v := .string ⟨(xs.map byteOf).toArray⟩) H (run_convert_bytes_back w s d (elT P s) ⟨b, o, none⟩ cap (xs.map byteOf) (slT_of h2) h3 h4 fun j hj => ?_) rfl (.d (.v rfl))
   have hj' : j < xs.length := by simpa using hj
   have hx : xs[j]? = some xs[j] := List.getElem?_eq_getElem hj'
   have hby := h6 xs[j] (List.getElem_mem hj')
   cases hxj : xs[j] with
   | v q =>
    rw [hxj] at hby hx
    cases q with
    | int kq z =>
     cases kq with
     | u8 =>
      simp only [isByte, Bool.and_eq_true, decide_eq_true_eq] at hby
      obtain ⟨c, hc1⟩ := hs j 0 _ (.v (.int .u8 z)) hx rfl
      have hcc := hc j 0 _ _ c hx rfl hc1
      cases hcc
      have hw := (H.mem _ _ _ hc1).1
      have ea : (⟨b, o, none⟩ : Addr).add j = ⟨b, o + j, none⟩ := by unfold Addr.add; split <;> simp_all
      rw [ea]
      simp only [List.getElem_map, hxj, byteOf]
      have e2 : ((UInt8.ofNat z.toNat).toNat : Int) = z := by
       have : z.toNat < 256 := by omega
       simp [Nat.mod_eq_of_lt this]
       omega
      rw [e2]
      simpa using hw
     | _ => simp [isByte] at hby
    | _ => simp [isByte] at hby
   | _ => rw [hxj] at hby; simp [isByte] at hby
theorem okBuiltin_of {h : Heap} {b : Builtin} {ts : List TypeId} {az : List AV} (hok : okBuiltin P h b ts az) :
  (b = .len ∧ ∃ x t tt, az = [x] ∧ ts = t :: tt ∧ okLen P t x) ∨ (b = .append ∧ ∃ x y t, az = [x, y] ∧ ts = [t, t] ∧ okAppend P t t x y h) ∨ ((b = .min ∨ b = .max) ∧ ∃ x y, az = [x, y] ∧ isI64 x = true ∧ isI64 y = true) := by
 cases b
 case len =>
  match az, ts, hok with
  | [x], t :: tt, hok => exact .inl ⟨rfl, x, t, tt, rfl, rfl, hok⟩
 case append =>
  match az, ts, hok with
  | [x, y], [t, t'], hok =>
   have e : t = t' := hok.2.1
   subst e
   exact .inr (.inl ⟨rfl, x, y, t, rfl, rfl, hok⟩)
 case min =>
  match az, hok with
  | [x, y], hok => exact .inr (.inr ⟨.inl rfl, x, y, rfl, hok.1, hok.2⟩)
 case max =>
  match az, hok with
  | [x, y], hok => exact .inr (.inr ⟨.inr rfl, x, y, rfl, hok.1, hok.2⟩)
 all_goals
  exfalso
  revert hok
  unfold okBuiltin
  split <;> simp_all
theorem op_ok (H : HRel P w0 s.h s.k m β w) (hT : TRel m β s.t a.tmps) (hn : a.tmps.size = n) (o : Oper) (hop : opOk n o.op = true) (hbn : β nm = none) (hk : nm.1 < s.k) (hok : okOf P o.op s.ev s.h) :
  NRes P w0 s.h s.k m β w nm (effOf P nm o.op s.ev s.h) (execOp a.eval o) := by
 obtain ⟨dst, op, ty, pos, after, guard⟩ := o
 simp only [opOk, Array.all_eq_true_iff_forall_mem] at hop
 have ev := fun x hx => ev_ok hT hn (hop x hx)
 cases op with
 | move x => exact .pure H (ev x (by simp [Op.operands]))
 | assign x => exact .pure H (ev x (by simp [Op.operands]))
 | pick c x y =>
  have hc := (ev c (by simp [Op.operands])).bool hok
  refine ⟨if boolOf' (s.ev c) then a.eval x else a.eval y, w, m, β, .inl ?_, .rfl' m, .rfl' β, fun _ _ h => h, H, ?_⟩
  ·simp [execOp, hc, asBool]
  ·simp only [effOf, pure']
   split
   ·exact ev x (by simp [Op.operands])
   ·exact ev y (by simp [Op.operands])
 | alloc e => exact .val (alloc_ok H hbn hk hok)
 | box e x => exact .val (box_ok H hbn hk (ev x (by simp [Op.operands])) hok)
 | build t ps =>
  obtain ⟨h1, h2, h3⟩ := hok
  obtain ⟨h4, h5⟩ := parts_ok hT hn (ps := ps) (fun x hx => hop x.2 (by simp [Op.operands]; exact ⟨x.1, by simpa using hx⟩))
  exact .val (build_ok H h4 h5 h1 h2 h3)
 | buildSlice t len ps =>
  obtain ⟨h4, h5⟩ := parts_ok hT hn (ps := ps) (fun x hx => hop x.2 (by simp [Op.operands]; exact ⟨x.1, by simpa using hx⟩))
  exact .val (buildSlice_ok H hbn hk h4 h5 hok)
 | load t x => exact .val (load_ok H hok.1 (ev x (by simp [Op.operands])) hok.2)
 | store t x y => exact .unit (store_ok H hok.1 (ev x (by simp [Op.operands])) (ev y (by simp [Op.operands])) hok.2)
 | nilCheck x =>
  have hx := ev x (by simp [Op.operands])
  have hpl : isPlace (s.ev x) = true := hok
  have : ∃ ad, a.eval x = .pointer (some ad) := by
   clear hok
   generalize a.eval x = v at hx
   generalize s.ev x = b at hx hpl
   cases hx <;> first | exact ⟨_, rfl⟩ | simp [isPlace] at hpl
  obtain ⟨ad, had⟩ := this
  refine ⟨a.eval x, w, m, β, .inl ?_, .rfl' m, .rfl' β, fun _ _ h => h, H, hx⟩
  simp [execOp, had]
 | binOp b t x y ty' =>
  have r1 := ev x (by simp [Op.operands])
  have r2 := ev y (by simp [Op.operands])
  simp only [okOf] at hok
  simp only [effOf]
  cases hci : nilI b y (s.ev x) with
  | some c =>
   rw [hci] at hok
   refine .val (VRes.same (v := .bool c) H ?_ rfl (.d (.v rfl)))
   exact nilI_run hok r1 hci
  | none =>
  rw [hci] at hok
  simp only at hok ⊢
  cases hc : nilCmp b (s.ev x) (s.ev y) with
  | none =>
   rw [hc] at hok
   obtain ⟨h1, h2, h3⟩ := hok
   obtain ⟨e1, _⟩ := r1.val h1
   obtain ⟨e2, _⟩ := r2.val h2
   obtain ⟨h4, h5⟩ := bin_run (P := P) (w := w) h3 x y
   refine .val (VRes.same H ?_ rfl (.d (.v h5)))
   rw [e1, e2]
   exact h4
  | some c =>
   rw [hc] at hok
   refine .val (VRes.same (v := .bool c) H ?_ rfl (.d (.v rfl)))
   exact nil_run (slT_of hok) r1 r2 hc x y
 | convert t t' x => exact .val (conv_ok H (ev x (by simp [Op.operands])) hok)
 | unOp u t x =>
  obtain ⟨h1, h3⟩ := hok
  obtain ⟨e1, _⟩ := (ev x (by simp [Op.operands])).val h1
  obtain ⟨h4, h5⟩ := un_run (P := P) (w := w) h3
  refine .val (VRes.same H ?_ rfl (.d (.v h5)))
  rw [e1]
  exact h4
 | fieldAddr t x f =>
  obtain ⟨h1, fl, h2, h3, h4⟩ := hok
  have := fieldAddr_ok (nm := nm) H (ev x (by simp [Op.operands])) h1 h2 h3 h4
  simp only [effOf, h2, Option.getD_some]
  exact .val this
 | field t x f =>
  obtain ⟨fl, h2, h3, h4, h5⟩ := hok
  have := field_ok (nm := nm) H (ev x (by simp [Op.operands])) h5 h2 h3 h4
  simp only [effOf, h2, Option.getD_some]
  exact .val this
 | indexAddr t x i =>
  obtain ⟨h1, h2, h3⟩ := hok
  exact .val (indexAddr_ok H (ev x (by simp [Op.operands])) (ev i (by simp [Op.operands])) h1 h2 h3)
 | index t x i =>
  obtain ⟨h1, h2, h3⟩ := hok
  have hx := ev x (by simp [Op.operands])
  obtain ⟨kk, hi⟩ := (ev i (by simp [Op.operands])).int h2
  generalize hA : s.ev x = A at hx h3
  generalize hV : a.eval x = V at hx
  split at h3
  ·rename_i st
   obtain ⟨h4, h5⟩ := h3
   cases hx with
   | d hd =>
    cases hd with
    | v _ =>
     have hlt : (intOf' (s.ev i)).toNat < st.size := by omega
     refine .val (VRes.same (v := .int .u8 (byteAt st (intOf' (s.ev i)).toNat)) H ?_ rfl ?_)
     ·rw [hV, hi]
      have hb : byteAt st (intOf' (s.ev i)).toNat = (st[(intOf' (s.ev i)).toNat]'hlt).toNat := by
       unfold byteAt
       rw [getElem?_pos st _ hlt]
      simp only [Instr.index, Sem.run_bind, run_asIntOf', Result.andThen_ok, run_underlying (strT_of h1)]
      rw [if_pos h4, getElem?_pos st _ hlt, hb]
      rfl
     ·simp only [effOf, hA]
      exact .d (.v rfl)
  ·exact h3.elim
 | slice t x lo hi mx =>
  obtain ⟨h1, h2, h3⟩ := hok
  have key : ∀ (l : Option Operand), (∀ x, l = some x → opndOk n x = true) → (∀ v, l.map a.eval = some v → ∃ b, l.map s.ev = some b ∧ R m β v b) ∧ (l.map a.eval = none → l.map s.ev = none) := by
   intro l hl
   cases l with
   | none => exact ⟨fun v hv => by simp at hv, fun _ => rfl⟩
   | some x => exact ⟨fun v hv => by simp at hv; subst hv; exact ⟨_, rfl, ev_ok hT hn (hl x rfl)⟩, fun hv => by simp at hv⟩
  obtain ⟨l1, l2⟩ := key lo fun x hx => hop x (by subst hx; simp [Op.operands])
  obtain ⟨l3, l4⟩ := key hi fun x hx => hop x (by subst hx; simp [Op.operands])
  obtain ⟨l5, l6⟩ := key mx fun x hx => hop x (by subst hx; simp [Op.operands])
  exact .val (slice_ok H hbn hk (ev x (by simp [Op.operands])) l1 l2 l3 l4 l5 l6 h1 h3)
 | makeFunc f first caps =>
  obtain ⟨h1, h2⟩ := evs_ok hT hn (xs := first) (fun x hx => hop x (by simp [Op.operands, hx]))
  obtain ⟨h3, h4⟩ := evs_ok hT hn (xs := caps) (fun x hx => hop x (by simp [Op.operands, hx]))
  refine .val (VRes.same (v := .func f (first.map a.eval) (caps.map a.eval)) H rfl rfl (.fn h1 h3 h2 h4))
 | makeSlice t l c => exact .val (makeSlice_ok H hbn hk (ev l (by simp [Op.operands])) (ev c (by simp [Op.operands])) hok)
 | extract x i =>
  have hx := ev x (by simp [Op.operands])
  simp only [okOf] at hok
  simp only [effOf]
  generalize s.ev x = A at hx hok
  generalize hV : a.eval x = V at hx
  split at hok
  ·rename_i vs
   cases hx with
   | @tup us _ hl hr =>
    have hu : us[i]? = some (us[i]'(by omega)) := Array.getElem?_eq_getElem (by omega)
    refine .val (VRes.same (v := us[i]'(by omega)) H ?_ rfl ?_)
    ·rw [hV]
     simp [Instr.extract, hu]
    ·simp only [pure']
     rw [List.getD_eq_getElem?_getD, List.getElem?_eq_getElem hok]
     exact hr i _ _ hu (List.getElem?_eq_getElem hok)
  ·exact hok.elim
 | makeMap t r =>
  cases r with
  | none => exact .val (makeMap_ok H hbn hk)
  | some _ => exact hok.elim
 | entry x => exact .val (entry_ok H (ev x (by simp [Op.operands])) hok)
 | range t x => exact .val (range_ok H hbn hk (ev x (by simp [Op.operands])) hok)
 | mapUpdate t x y z => exact .unit (put_ok H (ev x (by simp [Op.operands])) (ev y (by simp [Op.operands])) (ev z (by simp [Op.operands])) hok)
 | insert t x y z => exact .unit (put_ok H (ev x (by simp [Op.operands])) (ev y (by simp [Op.operands])) (ev z (by simp [Op.operands])) hok)
 | lookup t x y c => exact .val (look_ok H (ev x (by simp [Op.operands])) (ev y (by simp [Op.operands])) c hok)
 | call c =>
  obtain ⟨callee, args, ats⟩ := c
  cases callee with
  | builtin b =>
   have hargs := evs_ok hT hn (xs := args) (fun x hx => hop x (by simp [Op.operands, Call.operands, hx]))
   have hsz : (args.map a.eval).size = (args.toList.map s.ev).length := hargs.1
   have hR := hargs.2
   simp only [okOf] at hok
   simp only [effOf]
   generalize args.toList.map s.ev = az at hok hsz hR
   have two : ∀ x y, az = [x, y] → ∃ v0 v1, args.map a.eval = #[v0, v1] ∧ R m β v0 x ∧ R m β v1 y := by
    intro x y e
    subst e
    have h2 : (args.map a.eval).size = 2 := hsz
    refine ⟨(args.map a.eval)[0]'(by omega), (args.map a.eval)[1]'(by omega), ?_, hR 0 _ x (Array.getElem?_eq_getElem (by omega)) rfl, hR 1 _ y (Array.getElem?_eq_getElem (by omega)) rfl⟩
    apply Array.ext
    ·exact h2
    ·intro i h3 h4
     have : i < 2 := h4
     match i, this with
     | 0, _ => rfl
     | 1, _ => rfl
   have one : ∀ x, az = [x] → ∃ v0, args.map a.eval = #[v0] ∧ R m β v0 x := by
    intro x e
    subst e
    have h2 : (args.map a.eval).size = 1 := hsz
    refine ⟨(args.map a.eval)[0]'(by omega), ?_, hR 0 _ x (Array.getElem?_eq_getElem (by omega)) rfl⟩
    apply Array.ext
    ·exact h2
    ·intro i h3 h4
     have : i < 1 := h4
     match i, this with
     | 0, _ => rfl
   clear hR hsz hargs
   rcases okBuiltin_of hok with ⟨rfl, x, t, tt, rfl, hat, hl⟩ | ⟨rfl, x, y, t, rfl, hat, hl⟩ | ⟨hb, x, y, rfl, h1, h2⟩
   ·obtain ⟨v0, e2, r0⟩ := one x rfl
    have hat0 : ats[0]? = some t := by rw [← Array.getElem?_toList, hat]; rfl
    obtain ⟨v, w', m', β', g1, g2⟩ := len_ok (nm := nm) (ty := ty) H r0 hl
    refine ⟨v, w', m', β', .inl ?_, ?_⟩
    ·have e3 : Builtin.len_ ats ty #[v0] = Builtin.len_ #[t] ty #[v0] := by simp [Builtin.len_, hat0]
     simp [execOp, resolve, invoke, builtin, e2, e3, g1]
    ·simpa [effBuiltin] using g2
   ·obtain ⟨v0, v1, e2, r0, r1⟩ := two x y rfl
    have e1 : ats = #[t, t] := by apply Array.ext'; simpa using hat
    subst e1
    obtain ⟨v, w', m', β', g1, g2⟩ := append_ok H hbn hk r0 r1 hl ty
    refine ⟨v, w', m', β', .inl ?_, ?_⟩
    ·simp [execOp, resolve, invoke, builtin, e2, g1]
    ·simpa [effBuiltin] using g2
   ·obtain ⟨v0, v1, e2, r0, r1⟩ := two x y rfl
    have q0 := r0.i64 h1
    have q1 := r1.i64 h2
    subst q0; subst q1
    rcases hb with rfl | rfl
    ·refine ⟨.int .i64 (if intOf' y < intOf' x then intOf' y else intOf' x), w, m, β, .inl ?_, .rfl' m, .rfl' β, fun _ _ h => h, H, .d (.v rfl)⟩
     simp [execOp, resolve, invoke, builtin, e2, run_min_int2]
    ·refine ⟨.int .i64 (if intOf' y > intOf' x then intOf' y else intOf' x), w, m, β, .inl ?_, .rfl' m, .rfl' β, fun _ _ h => h, H, .d (.v rfl)⟩
     simp [execOp, resolve, invoke, builtin, e2, run_max_int2]
  | _ => exact hok.elim
 | _ => exact hok.elim
end
def Tri (P : Program) (f : FuncId) (args : List AV) (e : Eff) : Prop :=
 ∀ (w0 : GW) (h : Heap) (k : Nat) (m : Mem) (β : Bl) (w : World) (cargs : Array Value), HRel P w0 h k m β w → (∀ x ∈ e.rd, h x.1 = x.2) → (∀ x ∈ e.wr, x.1.1 < k ∧ (h x.1 = none → β x.1 = none)) →
  cargs.size = args.length → (∀ (i : Nat) (v : Value) (a : AV), cargs[i]? = some v → args[i]? = some a → R m β v a) →
  Calls P f cargs w fun en w' => ∃ v m' β', en = .returned v ∧ m.le m' ∧ β.le β' ∧ (∀ n, (∀ x ∈ e.wr, x.1 ≠ n) → β n = none → β' n = none) ∧ HRel P w0 (e.ap h) k m' β' w' ∧ R m' β' v e.val
def St.step (s : St) (o : Oper) (e : Eff) : St := ⟨match o.dst with | some d => set s.t d e.val | none => s.t, e.ap s.h, s.k⟩
def coL : List AV → List AV → Prop
 | [], [] => True
 | a :: az, b :: bs => (b = a ∨ b = a.dat) ∧ coL az bs
 | _, _ => False
def enterOk (P : Program) (f : FuncId) : Prop := ∀ args w, Sem.run P (callFunc f args) w = .ok (.enter f args) w
def CallOK (P : Program) (tick i : Nat) (f : Operand) (args : Array Operand) (s : St) (e : Eff) : Prop :=
 ∃ g first caps az, s.ev f = .fn (.func g) first caps ∧ enterOk P g ∧ coL (args.toList.map s.ev) az ∧ Tri P g (first ++ az ++ caps) e ∧ (∀ x ∈ e.rd, s.h x.1 = x.2) ∧ (∀ x ∈ e.wr, s.h x.1 ≠ none ∨ x.1.1 = tick ∧ x.1.2 % 1000 = i)
def ActOK (P : Program) (tick i : Nat) (o : Oper) (s : St) (e : Eff) : Prop :=
 match o.op with
 | .call ⟨.value f, args, _⟩ => CallOK P tick i f args s e
 | op => okOf P op s.ev s.h ∧ e = effOf P (tick, i) op s.ev s.h
def nop : Eff := ⟨.un, [], []⟩
def guardOk : AV → Prop
 | .un => True
 | x => isBool x = true
def guardB (b : Bool) : AV → Bool
 | .d (.v (.bool c)) => c == b
 | _ => false
def gslot (ops : Array Oper) (j : Nat) : Option Nat := (ops[j]?).bind (·.dst)
def gval (ops : Array Oper) (s : St) (j : Nat) : AV := match gslot ops j with | some d => s.t d | none => .junk
def isCallV : Op → Bool
 | .call ⟨.value _, _, _⟩ => true
 | _ => false
def runF (P : Program) (ops : Array Oper) (tick : Nat) : List Oper → Nat → St → (St → Prop) → Prop
 | [], _, s, K => K s
 | o :: rest, i, s, K =>
  match o.guard with
  | none => ∃ e, ActOK P tick i o s e ∧ runF P ops tick rest (i + 1) (s.step o e) K
  | some (j, b) => guardOk (gval ops s j) ∧ (guardB b (gval ops s j) = true → ∃ e, ActOK P tick i o s e ∧ runF P ops tick rest (i + 1) (s.step o e) K) ∧
    (guardB b (gval ops s j) = false → runF P ops tick rest (i + 1) (s.step o nop) K)
def CallK (P : Program) (ops : Array Oper) (tick i : Nat) (o : Oper) (rest : List Oper) (s : St) (K : St → Prop) : Prop := ∃ e, ActOK P tick i o s e ∧ runF P ops tick rest (i + 1) (s.step o e) K
def runL (P : Program) (ops : Array Oper) (tick : Nat) : List Oper → Nat → St → (St → Prop) → Prop
 | [], _, s, K => K s
 | o :: rest, i, s, K =>
  match o.guard with
  | none => if isCallV o.op then CallK P ops tick i o rest s K
    else okOf P o.op s.ev s.h ∧ runL P ops tick rest (i + 1) (s.step o (effOf P (tick, i) o.op s.ev s.h)) K
  | some (j, b) => guardOk (gval ops s j) ∧
    if guardB b (gval ops s j) = true then (if isCallV o.op then CallK P ops tick i o rest s K
     else okOf P o.op s.ev s.h ∧ runL P ops tick rest (i + 1) (s.step o (effOf P (tick, i) o.op s.ev s.h)) K)
    else runL P ops tick rest (i + 1) (s.step o nop) K
theorem runF_of {P : Program} {ops : Array Oper} {tick : Nat} {K : St → Prop} : ∀ (l : List Oper) (i : Nat) (s : St), runL P ops tick l i s K → runF P ops tick l i s K
 | [], _, _, h => h
 | o :: rest, i, s, h => by
  have act : (if isCallV o.op then CallK P ops tick i o rest s K else okOf P o.op s.ev s.h ∧ runL P ops tick rest (i + 1) (s.step o (effOf P (tick, i) o.op s.ev s.h)) K) → ∃ e, ActOK P tick i o s e ∧ runF P ops tick rest (i + 1) (s.step o e) K := by
   intro hh
   by_cases hc : isCallV o.op = true
   ·rw [if_pos hc] at hh; exact hh
   ·rw [if_neg hc] at hh
    refine ⟨_, ?_, runF_of rest _ _ hh.2⟩
    unfold ActOK
    split
    ·rename_i heq; rw [heq] at hc; simp [isCallV] at hc
    ·exact ⟨hh.1, rfl⟩
  unfold runF
  rw [runL] at h
  split at h
  ·exact act h
  ·rename_i j b _
   refine ⟨h.1, fun hb => act (by have h2 := h.2; rw [if_pos hb] at h2; exact h2), fun hb => runF_of rest _ _ (by have h2 := h.2; rw [if_neg (by rw [hb]; decide)] at h2; exact h2)⟩
def dstOk (n : Nat) (o : Oper) : Bool := match o.dst with | some d => decide (d < n) | none => true
def regOk (n : Nat) (ops : List Oper) : Bool := ops.all (fun o => opOk n o.op && dstOk n o) && decide (ops.length < 1000)
section
variable {P : Program} {w0 : GW} {w : World} {m : Mem} {β : Bl} {s : St} {a : Act} {n : Nat}
theorem coL_R : ∀ {az bs : List AV}, coL az bs → az.length = bs.length ∧ ∀ {m : Mem} {β : Bl} (i : Nat) (v : Value) (a b : AV), az[i]? = some a → bs[i]? = some b → R m β v a → R m β v b
 | [], [], _ => ⟨rfl, fun i v a b h => by simp at h⟩
 | [], _ :: _, h => h.elim
 | _ :: _, [], h => h.elim
 | x :: xs, y :: ys, h => by
  obtain ⟨h1, h2⟩ := h
  obtain ⟨h3, h4⟩ := coL_R h2
  refine ⟨by simp [h3], fun i v a b ha hb hr => ?_⟩
  cases i with
  | zero =>
   simp at ha hb
   subst ha; subst hb
   rcases h1 with rfl | rfl
   ·exact hr
   ·exact hr.dat
  | succ i => exact h4 i v a b (by simpa using ha) (by simpa using hb) hr
structure Goes (P : Program) (w0 : GW) (m : Mem) (β : Bl) (s' : St) (m' : Mem) (β' : Bl) (a' : Act) (w' : World) : Prop where
 mem : m.le m'
 bl : β.le β'
 heap : HRel P w0 s'.h s'.k m' β' w'
 slots : TRel m' β' s'.t a'.tmps
theorem put_size (a : Act) (d : Option Tmp) (v : Value) : (a.put d v).tmps.size = a.tmps.size := by cases d <;> simp [Act.put]
theorem put_defers (a : Act) (d : Option Tmp) (v : Value) : (a.put d v).defers = a.defers := by cases d <;> rfl
theorem step_slots {o : Oper} {e : Eff} {m' : Mem} {β' : Bl} {v : Value} (hT : TRel m β s.t a.tmps) (hm : m.le m') (hb : β.le β') (hr : R m' β' v e.val) : TRel m' β' (s.step o e).t (a.put o.dst v).tmps := by
 unfold St.step
 cases hd : o.dst with
 | none => exact hT.mono hm hb
 | some d => exact (hT.mono hm hb).put hr
theorem act_sound {tick i : Nat} {o : Oper} {e : Eff} {K : Act → World → Prop} {Q : Exit → Act → World → Prop} (hact : ActOK P tick i o s e) (hop : opOk n o.op = true) (hn : a.tmps.size = n) (hk : tick < s.k) (hi : i < 1000)
  (H : HRel P w0 s.h s.k m β w) (hT : TRel m β s.t a.tmps) (hfresh : ∀ j, j % 1000 = i → β (tick, j) = none)
  (hK : ∀ v m' β' w', Goes P w0 m β (s.step o e) m' β' (a.put o.dst v) w' → (∀ x, ¬ (x.1 = tick ∧ x.2 % 1000 = i) → β x = none → β' x = none) → K (a.put o.dst v) w') : o.wp P a w K Q := by
 obtain ⟨dst, op, ty, pos, after, guard⟩ := o
 have plain : okOf P op s.ev s.h ∧ e = effOf P (tick, i) op s.ev s.h → Oper.wp P ⟨dst, op, ty, pos, after, guard⟩ a w K Q := by
  rintro ⟨h1, rfl⟩
  obtain ⟨v, w', m', β', hr, h3, h4, h5, h6, h7⟩ := op_ok H hT hn ⟨dst, op, ty, pos, after, guard⟩ hop (hfresh i (Nat.mod_eq_of_lt hi)) hk h1
  have hgo := hK v m' β' w' ⟨h3, h4, h6, step_slots hT h3 h4 h7⟩ fun x hx => h5 x fun e => hx (by subst e; exact ⟨rfl, Nat.mod_eq_of_lt hi⟩)
  unfold Oper.wp
  rcases hr with hr | ⟨hr, rfl⟩
  ·rw [hr]; exact hgo
  ·rw [hr]; exact hgo
 by_cases hc : isCallV op = true
 ·cases op <;> simp [isCallV] at hc
  rename_i c
  obtain ⟨callee, args, ats⟩ := c
  cases callee <;> simp [isCallV] at hc
  rename_i f
  obtain ⟨g, first, caps, az, hf, hent, hco, htri, hrd, hwr⟩ := hact
  simp only [opOk, Array.all_eq_true_iff_forall_mem] at hop
  have hfv := ev_ok hT hn (hop f (by simp [Op.operands, Call.operands]))
  rw [hf] at hfv
  obtain ⟨ha1, ha2⟩ := evs_ok hT hn (xs := args) (fun x hx => hop x (by simp [Op.operands, Call.operands, hx]))
  generalize hV : a.eval f = V at hfv
  cases hfv with
  | @fn _ fs cs _ _ h1 h2 h3 h4 =>
   have hres : (execOp a.eval ⟨dst, .call ⟨.value f, args, ats⟩, ty, pos, after, guard⟩).run P w = .ok (.enter g (fs ++ args.map a.eval ++ cs)) w := by
    simp [execOp, resolve, Deferred.ofValue, hV, invoke, hent _ w]
   obtain ⟨hl, hcR⟩ := coL_R hco
   have hlen : (fs ++ args.map a.eval ++ cs).size = (first ++ az ++ caps).length := by
    have : args.size = az.length := by simpa using hl
    simp [h1, h2, this]
   have hargs : ∀ (q : Nat) (v : Value) (b : AV), (fs ++ args.map a.eval ++ cs)[q]? = some v → (first ++ az ++ caps)[q]? = some b → R m β v b := by
    intro q v b hv hb
    have hla : (args.map a.eval).size = az.length := by rw [ha1, hl]
    by_cases q1 : q < first.length
    ·rw [Array.getElem?_append_left (by simp; omega), Array.getElem?_append_left (by omega)] at hv
     rw [List.getElem?_append_left (by simp; omega), List.getElem?_append_left q1] at hb
     exact h3 q v b hv hb
    ·by_cases q2 : q < first.length + az.length
     ·rw [Array.getElem?_append_left (by simp at hla ⊢; omega), Array.getElem?_append_right (by omega)] at hv
      rw [List.getElem?_append_left (by simp; omega), List.getElem?_append_right (by omega)] at hb
      rw [h1] at hv
      have hq : q - first.length < (args.toList.map s.ev).length := by rw [hl]; omega
      exact hcR _ v _ b (List.getElem?_eq_getElem hq) hb (ha2 _ v _ hv (List.getElem?_eq_getElem hq))
     ·rw [Array.getElem?_append_right (by simp at hla ⊢; omega)] at hv
      rw [List.getElem?_append_right (by simp; omega)] at hb
      have e1 : q - (fs ++ args.map a.eval).size = q - (first ++ az).length := by simp at hla ⊢; omega
      rw [e1] at hv
      exact h4 _ v b hv hb
   have hcalls := htri w0 s.h s.k m β w _ H hrd (fun x hx => by
    rcases hwr x hx with h | ⟨h, h'⟩
    ·obtain ⟨ob, hob⟩ := Option.ne_none_iff_exists'.1 h
     obtain ⟨p, hp, _⟩ := H.obj _ _ hob
     exact ⟨H.dom _ _ hp, fun h0 => absurd h0 h⟩
    ·exact ⟨by omega, fun _ => by have := hfresh x.1.2 h'; rw [← h] at this; exact this⟩) hlen hargs
   unfold Oper.wp
   rw [hres]
   refine hcalls.mono ?_
   rintro en w' ⟨v, m', β', rfl, g1, g2, g3, g4, g5⟩
   refine hK v m' β' w' ⟨g1, g2, g4, step_slots hT g1 g2 g5⟩ fun x hx h0 => ?_
   by_cases hin : ∃ y ∈ e.wr, y.1 = x
   ·obtain ⟨y, hy, rfl⟩ := hin
    rcases hwr y hy with h | h
    ·obtain ⟨ob, hob⟩ := Option.ne_none_iff_exists'.1 h
     obtain ⟨p, hp, _⟩ := H.obj _ _ hob
     rw [hp] at h0; cases h0
    ·exact absurd h hx
   ·exact g3 x (fun y hy e => hin ⟨y, hy, e⟩) h0
 ·refine plain ?_
  unfold ActOK at hact
  simp only at hact
  split at hact
  ·simp [isCallV] at hc
  ·exact hact
theorem CallK.pure {tick i : Nat} {dst : Option Tmp} {g : FuncId} {args : Array Operand} {ats : Array TypeId} {ty : TypeId} {pos : String} {after : Array Edge} {guard : Option (Nat × Bool)} {ops : Array Oper} {rest : List Oper} {K : St → Prop} {az : List AV} {v : AV} (hent : enterOk P g) (ht : Tri P g az (pure' v))
  (hco : coL (args.toList.map s.ev) az) (hk : runL P ops tick rest (i + 1) (s.step ⟨dst, .call ⟨.value (.func g), args, ats⟩, ty, pos, after, guard⟩ (pure' v)) K) : CallK P ops tick i ⟨dst, .call ⟨.value (.func g), args, ats⟩, ty, pos, after, guard⟩ rest s K :=
 ⟨pure' v, ⟨g, [], [], az, rfl, hent, hco, by simpa using ht, fun x hx => (by cases hx), fun x hx => (by cases hx)⟩, runF_of _ _ _ hk⟩
theorem gval_sound {ops : Array Oper} {j : Nat} {b : Bool} (hT : TRel m β s.t a.tmps) (hn : a.tmps.size = n) (hd : ∀ o ∈ ops, dstOk n o = true) (hg : guardOk (gval ops s j)) : (yielded ops a.tmps j == some b) = guardB b (gval ops s j) := by
 unfold gval gslot at hg ⊢
 cases ho : ops[j]? with
 | none => simp [ho, guardOk, isBool] at hg
 | some o =>
  simp only [ho, Option.bind_some] at hg ⊢
  cases hdd : o.dst with
  | none => simp [hdd, guardOk, isBool] at hg
  | some d =>
   simp only [hdd] at hg ⊢
   have := hd o (Array.mem_of_getElem? ho)
   simp only [dstOk, hdd, decide_eq_true_eq] at this
   have hlt : d < a.tmps.size := by rw [hn]; exact this
   have hv : a.tmps[d]? = some a.tmps[d] := Array.getElem?_eq_getElem hlt
   have hr := hT d _ hv
   have hq : isBool (s.t d) = true → (yielded ops a.tmps j == some b) = guardB b (s.t d) := fun hq => by
    have hb := hr.bool hq
    have e : s.t d = .d (.v (.bool (boolOf' (s.t d)))) := by
     generalize s.t d = x at hq
     cases x with
     | d y => cases y with
      | v z => cases z <;> simp_all [isBool, boolOf']
      | _ => simp [isBool] at hq
     | _ => simp [isBool] at hq
    rw [e]
    simp only [yielded, ho, Option.bind_some, hdd, hv, hb, guardB, boolOf']
    rfl
   generalize hx : s.t d = x at hg hr hq
   cases x with
   | un =>
    cases hu : a.tmps[d] with
    | _ => rw [hu] at hr; cases hr <;> simp [yielded, ho, hdd, hv, hu, guardB]
   | _ => exact hq hg
theorem runF_sound {ops : Array Oper} {tick : Nat} {Q : Exit → Act → World → Prop} {K : St → Prop} (hd : ∀ o ∈ ops, dstOk n o = true) : ∀ (l : List Oper) (i : Nat) (s : St) (m : Mem) (β : Bl) (a : Act) (w : World), runF P ops tick l i s K → (∀ o ∈ l, opOk n o.op = true) → i + l.length ≤ 1000 → a.tmps.size = n → tick < s.k →
  HRel P w0 s.h s.k m β w → TRel m β s.t a.tmps → (∀ j, i ≤ j % 1000 → β (tick, j) = none) →
  (∀ s' m' β' a' w', K s' → a'.tmps.size = n → a'.defers = a.defers → s'.k = s.k → Goes P w0 m β s' m' β' a' w' → (∀ x, x.1 ≠ tick → β x = none → β' x = none) → Q .normal a' w') → wpList P ops Q l a w
 | [], i, s, m, β, a, w, hr, _, _, hn, _, H, hT, _, hQ => hQ s m β a w hr hn rfl rfl ⟨.rfl' m, .rfl' β, H, hT⟩ fun _ _ h => h
 | o :: rest, i, s, m, β, a, w, hr, hop, hi, hn, hk, H, hT, hfr, hQ => by
  have hlen : i < 1000 := by simp at hi; omega
  have hop1 := hop o (by simp)
  have next : ∀ (e : Eff), runF P ops tick rest (i + 1) (s.step o e) K → ∀ v m' β' w', Goes P w0 m β (s.step o e) m' β' (a.put o.dst v) w' → (∀ x, ¬ (x.1 = tick ∧ x.2 % 1000 = i) → β x = none → β' x = none) → wpList P ops Q rest (a.put o.dst v) w' := by
   intro e hre v m' β' w' hg hb
   refine runF_sound hd rest (i + 1) (s.step o e) m' β' (a.put o.dst v) w' hre (fun o ho => hop o (by simp [ho])) (by simp at hi; omega) (by rw [put_size, hn]) hk hg.heap hg.slots (fun j hj => ?_) ?_
   ·exact hb (tick, j) (fun h => by have := h.2; simp at this; omega) (hfr j (by omega))
   ·intro s' m'' β'' a' w'' h1 h2 h3 h4 h5 h6
    refine hQ s' m'' β'' a' w'' h1 h2 (h3.trans (put_defers _ _ _)) h4 ⟨hg.mem.trans h5.mem, hg.bl.trans h5.bl, h5.heap, h5.slots⟩ fun x hx h0 => h6 x hx (hb x (fun h => hx h.1) h0)
  have act : (∃ e, ActOK P tick i o s e ∧ runF P ops tick rest (i + 1) (s.step o e) K) → o.wp P a w (wpList P ops Q rest) Q := by
   rintro ⟨e, h1, h2⟩
   exact act_sound h1 hop1 hn hk hlen H hT (fun j hj => hfr j (by omega)) fun v m' β' w' hg hb => next e h2 v m' β' w' hg hb
  unfold wpList
  rw [runF] at hr
  split at hr
  ·rename_i hg
   rw [if_pos (by simp [Region.wanted, hg])]
   exact .inl (act hr)
  ·rename_i j b hg
   obtain ⟨h1, h2, h3⟩ := hr
   have hy := gval_sound (b := b) hT hn hd h1
   by_cases hb : guardB b (gval ops s j) = true
   ·rw [if_pos (by simp [Region.wanted, hg, hb] at hy ⊢; exact hy)]
    exact .inl (act (h2 hb))
   ·have hb' : guardB b (gval ops s j) = false := by simpa using hb
    rw [if_neg (by simp [Region.wanted, hg, hb'] at hy ⊢; exact hy)]
    exact next nop (h3 hb') undef m β w ⟨.rfl' m, .rfl' β, H, step_slots (e := nop) hT (.rfl' m) (.rfl' β) .un⟩ fun _ _ h => h
end
def awp (P : Program) (w0 : GW) (n : Nat) (c : Code) (Q : Exit → St → Prop) (s : St) : Prop :=
 ∀ (m : Mem) (β : Bl) (a : Act) (w : World), a.tmps.size = n → HRel P w0 s.h s.k m β w → TRel m β s.t a.tmps →
  c.wp P (fun e a' w' => ∃ s' m' β', Q e s' ∧ a'.tmps.size = n ∧ a'.defers = a.defers ∧ s.k ≤ s'.k ∧ Goes P w0 m β s' m' β' a' w' ∧ ∀ x, x.1 < s.k → β x = none → β' x = none) a w
def thenA (next : St → Prop) (Q : Exit → St → Prop) : Exit → St → Prop
 | .normal, s => next s
 | e, s => Q e s
def inBlockA (id : Nat) (Q : Exit → St → Prop) : Exit → St → Prop
 | .exit id', s => if id' = id then Q .normal s else Q (.exit id') s
 | e, s => Q e s
section
variable {P : Program} {w0 : GW} {n : Nat} {Q Q' : Exit → St → Prop} {s : St}
theorem awp_mono {c : Code} (h : awp P w0 n c Q s) (hq : ∀ e s, Q e s → Q' e s) : awp P w0 n c Q' s := by
 intro m β a w h1 h2 h3
 exact wp_mono (h m β a w h1 h2 h3) fun e a' w' ⟨s', m', β', q, r⟩ => ⟨s', m', β', hq e s' q, r⟩
theorem awp_skip (h : Q .normal s) : awp P w0 n .skip Q s := fun m β _ _ h1 h2 h3 => wp_skip ⟨s, m, β, h, h1, rfl, Nat.le_refl _, ⟨.rfl' m, .rfl' β, h2, h3⟩, fun _ _ h => h⟩
theorem awp_ret (h : Q .ret s) : awp P w0 n .ret Q s := fun m β _ _ h1 h2 h3 => wp_ret ⟨s, m, β, h, h1, rfl, Nat.le_refl _, ⟨.rfl' m, .rfl' β, h2, h3⟩, fun _ _ h => h⟩
theorem awp_exit {id : Nat} (h : Q (.exit id) s) : awp P w0 n (.exit id) Q s := fun m β _ _ h1 h2 h3 => wp_exit ⟨s, m, β, h, h1, rfl, Nat.le_refl _, ⟨.rfl' m, .rfl' β, h2, h3⟩, fun _ _ h => h⟩
theorem awp_seq {x y : Code} (h : awp P w0 n x (thenA (awp P w0 n y Q) Q) s) : awp P w0 n (.seq x y) Q s := by
 intro m β a w h1 h2 h3
 refine wp_seq (wp_mono (h m β a w h1 h2 h3) fun e a' w' hq => ?_)
 obtain ⟨s', m', β', q, g1, g2, g3, g4, g5⟩ := hq
 cases e with
 | normal =>
  refine wp_mono (q m' β' a' w' g1 g4.heap g4.slots) fun e a'' w'' hq => ?_
  obtain ⟨s'', m'', β'', q', k1, k2, k3, k4, k5⟩ := hq
  exact ⟨s'', m'', β'', q', k1, k2.trans g2, by omega, ⟨g4.mem.trans k4.mem, g4.bl.trans k4.bl, k4.heap, k4.slots⟩, fun x hx h0 => k5 x (by omega) (g5 x hx h0)⟩
 | _ => exact ⟨s', m', β', q, g1, g2, g3, g4, g5⟩
theorem awp_seq_k {x y : Code} (h : ∀ K : St → Prop, (∀ s, awp P w0 n y Q s → K s) → awp P w0 n x (thenA K Q) s) : awp P w0 n (.seq x y) Q s := awp_seq (h _ fun _ h => h)
theorem awp_cond {c : Operand} {x y : Code} (hb : isBool (s.ev c) = true) (hc : opndOk n c = true) (ht : boolOf' (s.ev c) = true → awp P w0 n x Q s) (hf : boolOf' (s.ev c) = false → awp P w0 n y Q s) : awp P w0 n (.cond c x y) Q s := by
 intro m β a w h1 h2 h3
 have hv := (ev_ok h3 h1 hc).bool hb
 cases hbb : boolOf' (s.ev c) with
 | true => rw [hbb] at hv; exact wp_cond (t := true) hv (ht hbb m β a w h1 h2 h3)
 | false => rw [hbb] at hv; exact wp_cond (t := false) hv (hf hbb m β a w h1 h2 h3)
theorem awp_true {c : Operand} {x y : Code} (hb : s.ev c = .d (.v (.bool true))) (hc : opndOk n c = true) (ht : awp P w0 n x Q s) : awp P w0 n (.cond c x y) Q s :=
 awp_cond (by rw [hb]; rfl) hc (fun _ => ht) (fun h => by rw [hb] at h; cases h)
theorem awp_false {c : Operand} {x y : Code} (hb : s.ev c = .d (.v (.bool false))) (hc : opndOk n c = true) (hf : awp P w0 n y Q s) : awp P w0 n (.cond c x y) Q s :=
 awp_cond (by rw [hb]; rfl) hc (fun h => by rw [hb] at h; cases h) (fun _ => hf)
theorem awp_block {id : Nat} {c : Code} (h : awp P w0 n c (inBlockA id Q) s) : awp P w0 n (.block id c) Q s := by
 intro m β a w h1 h2 h3
 refine wp_block (wp_mono (h m β a w h1 h2 h3) fun e a' w' hq => ?_)
 obtain ⟨s', m', β', q, r⟩ := hq
 cases e with
 | exit id' =>
  simp only [inBlockA, Exit.inBlock] at q ⊢
  split
  ·rename_i he; rw [if_pos he] at q; exact ⟨s', m', β', q, r⟩
  ·rename_i he; rw [if_neg he] at q; exact ⟨s', m', β', q, r⟩
 | _ => exact ⟨s', m', β', q, r⟩
theorem awp_loop {c : Code} (I : St → Prop) (μ : St → Nat) (h0 : I s) (round : ∀ s, I s → awp P w0 n c (thenA (fun s' => I s' ∧ μ s' < μ s) Q) s) : awp P w0 n (.loop c) Q s := by
 intro m β a w h1 h2 h3 b k cs
 have key : ∀ N s m β a w, μ s = N → I s → a.tmps.size = n → HRel P w0 s.h s.k m β w → TRel m β s.t a.tmps →
   ∃ e a' w', (∃ s' m' β', Q e s' ∧ a'.tmps.size = n ∧ a'.defers = a.defers ∧ s.k ≤ s'.k ∧ Goes P w0 m β s' m' β' a' w' ∧ ∀ x, x.1 < s.k → β x = none → β' x = none) ∧ Arrives P (lone (b.at a (.code c :: .inLoop c :: k)) cs w) b k cs e a' w' := by
  intro N
  induction N using Nat.strongRecOn with
  | _ N ih =>
   intro s m β a w hN hI h1 h2 h3
   obtain ⟨e, a₁, w₁, ⟨s', m', β', hq, g1, g2, g3, g4, g5⟩, harr⟩ := round s hI m β a w h1 h2 h3 b (.inLoop c :: k) cs
   cases e with
   | normal =>
    obtain ⟨hI₁, hlt⟩ := hq
    obtain ⟨e₂, a₂, w₂, ⟨s'', m'', β'', hq₂, k1, k2, k3, k4, k5⟩, harr₂⟩ := ih (μ s') (hN ▸ hlt) s' m' β' a₁ w₁ rfl hI₁ g1 g4.heap g4.slots
    exact ⟨e₂, a₂, w₂, ⟨s'', m'', β'', hq₂, k1, k2.trans g2, by omega, ⟨g4.mem.trans k4.mem, g4.bl.trans k4.bl, k4.heap, k4.slots⟩, fun x hx h0 => k5 x (by omega) (g5 x hx h0)⟩, .of_steps (Steps.trans harr (.one step_inLoop)) harr₂⟩
   | exit id => exact ⟨_, a₁, w₁, ⟨s', m', β', hq, g1, g2, g3, g4, g5⟩, .pass (x := .inLoop c) rfl (fun _ _ => .inl (by simp)) harr⟩
   | goto l => exact ⟨_, a₁, w₁, ⟨s', m', β', hq, g1, g2, g3, g4, g5⟩, .pass (x := .inLoop c) rfl (fun _ _ => .inl (by simp)) harr⟩
   | ret => exact ⟨_, a₁, w₁, ⟨s', m', β', hq, g1, g2, g3, g4, g5⟩, .pass (x := .inLoop c) rfl (fun _ _ => .inl (by simp)) harr⟩
   | panic ch => exact ⟨_, a₁, w₁, ⟨s', m', β', hq, g1, g2, g3, g4, g5⟩, .pass (x := .inLoop c) rfl (fun _ _ => .inl (by simp)) harr⟩
   | outgrown => exact ⟨_, a₁, w₁, ⟨s', m', β', hq, g1, g2, g3, g4, g5⟩, .pass (x := .inLoop c) rfl (fun _ _ => .inl (by simp)) harr⟩
 obtain ⟨e, a', w', hq, harr⟩ := key _ s m β a w rfl h0 h1 h2 h3
 exact ⟨e, a', w', hq, .of_steps (.one step_loop) harr⟩
theorem awp_region {id : Nat} {l : List Oper} (hreg : regOk n l = true) (h : runL P l.toArray s.k l 0 { s with k := s.k + 1 } (fun s' => Q .normal s')) : awp P w0 n (.region id l.toArray false) Q s := by
 intro m β a w h1 h2 h3
 simp only [regOk, Bool.and_eq_true, List.all_eq_true, decide_eq_true_eq] at hreg
 obtain ⟨hreg, hlen⟩ := hreg
 refine wp_region_list ?_
 refine runF_sound (tick := s.k) (n := n) (ops := l.toArray) (fun o ho => (hreg o (by simpa using ho)).2) l 0 { s with k := s.k + 1 } m β a w (runF_of _ _ _ h) (fun o ho => (hreg o ho).1) (by omega) h1 (by simp) (h2.tick (Nat.le_succ _)) h3 (fun j _ => ?_) ?_
 ·cases hb : β (s.k, j) with
  | none => rfl
  | some p => have := h2.dom _ _ hb; simp at this
 ·intro s' m' β' a' w' hK k1 k2 k3 k4 k5
  exact ⟨s', m', β', hK, k1, k2, by rw [k3]; exact Nat.le_succ _, k4, fun x hx => k5 x (by omega)⟩
theorem awp_region_k {id : Nat} {l : List Oper} (hreg : regOk n l = true) (h : ∀ K : St → Prop, (∀ s', Q .normal s' → K s') → runL P l.toArray s.k l 0 { s with k := s.k + 1 } K) : awp P w0 n (.region id l.toArray false) Q s := awp_region hreg (h _ fun _ h => h)
def Ghost (P : Program) (w0 : GW) (n : Nat) (s s' : St) : Prop :=
 ∀ (m : Mem) (β : Bl) (a : Act) (w : World), a.tmps.size = n → HRel P w0 s.h s.k m β w → TRel m β s.t a.tmps → ∃ m' β', s.k ≤ s'.k ∧ Goes P w0 m β s' m' β' a w ∧ ∀ x, x.1 < s.k → β x = none → β' x = none
theorem awp_ghost {c : Code} {s' : St} (hg : Ghost P w0 n s s') (h : awp P w0 n c Q s') : awp P w0 n c Q s := by
 intro m β a w h1 h2 h3
 obtain ⟨m', β', g1, g2, g3⟩ := hg m β a w h1 h2 h3
 refine wp_mono (h m' β' a w h1 g2.heap g2.slots) fun e a' w' hq => ?_
 obtain ⟨s'', m'', β'', q', k1, k2, k3, k4, k5⟩ := hq
 exact ⟨s'', m'', β'', q', k1, k2, by omega, ⟨g2.mem.trans k4.mem, g2.bl.trans k4.bl, k4.heap, k4.slots⟩, fun x hx h0 => k5 x (by omega) (g3 x hx h0)⟩
theorem ghost_nil {i : Nat} {e : TypeId} (hi : s.t i = .nil) : Ghost P w0 n s ⟨set s.t i (.own (s.k, 0) []), upd s.h (s.k, 0) (some (.perm e 0)), s.k + 1⟩ := by
 intro m β a w h1 h2 h3
 have hb : β (s.k, 0) = none := by
  cases hb : β (s.k, 0) with
  | none => rfl
  | some p => have := h2.dom _ _ hb; simp at this
 refine ⟨m, updB β (s.k, 0) ⟨0, 0, some 0⟩, Nat.le_succ _, ⟨.rfl' m, updB_le (le_new hb), (h2.tick (Nat.le_succ _)).perm0 hb (Nat.lt_succ_self _) e 0 0, fun j v hj => ?_⟩, fun x hx => updB_none fun e => by subst e; simp at hx⟩
 show R m _ v (set s.t i _ j)
 unfold set
 split
 ·subst_vars
  have := h3 _ v hj
  rw [hi] at this
  cases this with
  | nil => exact .own (p := ⟨0, 0, some 0⟩) (v := 0) .nil (updB_self _ _ _) rfl (Nat.le_refl _) fun _ => ⟨none, rfl, .inl ⟨rfl, rfl⟩⟩
 ·exact (h3 j v hj).mono (.rfl' m) (updB_le (le_new hb))
end
abbrev Ren := Option (Nm × Nm)
inductive Co (k : Nat) (ren : Ren) : AV → AV → Prop
 | refl {a : AV} (h : ∀ n ∈ a.names, n.1 < k) : Co k ren a a
 | dat {a : AV} {x : DV} (h : a.toD? = some x) : Co k ren a (.d x)
 | junk {a : AV} : Co k ren a .junk
 | own {n n' : Nm} {xs : List DV} (h : ren = some (n', n)) : Co k ren (.own n xs) (.own n' xs)
 | arr {n n' : Nm} {off len : Nat} (h : ren = some (n', n)) : Co k ren (.arr n off len) (.arr n' off len)
 | map {n n' : Nm} (h : ren = some (n', n)) : Co k ren (.map n) (.map n')
 | ptr {n n' : Nm} {off : Nat} (h : ren = some (n', n)) : Co k ren (.ptr n off) (.ptr n' off)
 | tup {az bs : List AV} (hl : az.length = bs.length) (h : ∀ (i : Nat) (a b : AV), az[i]? = some a → bs[i]? = some b → Co k ren a b) : Co k ren (.tup az) (.tup bs)
theorem Co.t2 {k : Nat} {ren : Ren} {a b a' b' : AV} (h1 : Co k ren a a') (h2 : Co k ren b b') : Co k ren (.tup [a, b]) (.tup [a', b']) :=
 .tup rfl fun i x y hx hy => by
  match i with
  | 0 => simp at hx hy; subst hx; subst hy; exact h1
  | 1 => simp at hx hy; subst hx; subst hy; exact h2
  | i + 2 => simp at hx
theorem Co.t3 {k : Nat} {ren : Ren} {a b c a' b' c' : AV} (h1 : Co k ren a a') (h2 : Co k ren b b') (h3 : Co k ren c c') : Co k ren (.tup [a, b, c]) (.tup [a', b', c']) :=
 .tup rfl fun i x y hx hy => by
  match i with
  | 0 => simp at hx hy; subst hx; subst hy; exact h1
  | 1 => simp at hx hy; subst hx; subst hy; exact h2
  | 2 => simp at hx hy; subst hx; subst hy; exact h3
  | i + 3 => simp at hx
def Ob.names : Ob → List Nm
 | .cells _ cs => namesL cs
 | .iter src _ _ => [src]
 | .gro _ _ cs => namesL cs
 | .loop _ _ _ _ _ _ _ ts => namesL ts
 | _ => []
def resV (P : Program) (s : St) : ResultVar → AV
 | .tmp t => s.t t
 | .cell a t => (effLoad P t (s.t a) s.h).val
def resOk (P : Program) (n : Nat) (s : St) : ResultVar → Prop
 | .tmp t => t < n
 | .cell a t => a < n ∧ hasT P t = true ∧ okLoad P t (s.t a) s.h
def resA (P : Program) (s : St) : List ResultVar → AV
 | [r] => resV P s r
 | rs => .tup (rs.map (resV P s))
def resOkL (P : Program) (n : Nat) (s : St) : List ResultVar → Prop
 | [] => True
 | r :: rs => resOk P n s r ∧ resOkL P n s rs
def HeapOK (k : Nat) (ren : Ren) (e : Eff) (h0 h : Heap) : Prop :=
 (∀ x, x.1 < k → (∀ y, ren = some y → x ≠ y.1) → h x = e.ap h0 x) ∧ (∀ y, ren = some y → y.1.1 < k ∧ k ≤ y.2.1 ∧ h0 y.1 = none ∧ (∃ z ∈ e.wr, z.1 = y.1) ∧ ∃ ob, e.ap h0 y.1 = some ob ∧ h y.2 = some ob ∧ ob.names = []) ∧
  ∀ x ∈ e.wr, ∀ ob, x.2 = some ob → ∀ n ∈ ob.names, n.1 < k
def RetOK (P : Program) (fn : Func) (e : Eff) (h0 : Heap) (k : Nat) (s : St) : Prop :=
 resOkL P fn.ntmps s fn.results.toList ∧ ∃ ren, Co k ren (resA P s fn.results.toList) e.val ∧ HeapOK k ren e h0 s.h
def retQ (P : Program) (fn : Func) (e : Eff) (h0 : Heap) (k : Nat) : Exit → St → Prop
 | .ret, s => RetOK P fn e h0 k s
 | .normal, s => RetOK P fn e h0 k s
 | _, _ => False
section
variable {P : Program} {w0 : GW} {m : Mem} {β : Bl} {s : St} {a : Act} {w : World}
def resSem (tmps : Array Value) : ResultVar → Sem Value
 | .tmp t => pure (tmps.getD t undef)
 | .cell a t => do loadVar t (← asAddr (tmps.getD a undef))
theorem results_eq (fn : Func) (tmps : Array Value) : results fn tmps = (do let vs ← fn.results.mapM (resSem tmps); pure (if h : vs.size = 1 then vs[0] else .tuple vs)) := by
 unfold results
 congr 2
theorem res_run {n : Nat} (H : HRel P w0 s.h s.k m β w) (hT : TRel m β s.t a.tmps) (hn : a.tmps.size = n) (r : ResultVar) (hr : resOk P n s r) :
  ∃ v, (resSem a.tmps r).run P w = .ok v w ∧ R m β v (resV P s r) := by
 cases r with
 | tmp t =>
  have hlt : t < a.tmps.size := by rw [hn]; exact hr
  refine ⟨a.tmps[t], ?_, hT t _ (Array.getElem?_eq_getElem hlt)⟩
  simp only [resSem, Sem.run_pure]
  rw [← Array.getElem_eq_getD (h := hlt)]
 | cell x t =>
  obtain ⟨h1, h2, h3⟩ := hr
  have hlt : x < a.tmps.size := by rw [hn]; exact h1
  have hv := hT x _ (Array.getElem?_eq_getElem hlt)
  obtain ⟨v, hrun, hR⟩ := load_same H h2 hv h3
  refine ⟨v, ?_, hR⟩
  have e : a.tmps.getD x undef = a.tmps[x] := (Array.getElem_eq_getD (h := hlt) undef).symm
  simp only [resSem, e]
  clear e
  generalize a.tmps[x] = u at hv hrun
  have hp : ∃ ad, u = .pointer (some ad) := by
   generalize s.t x = b at hv h3
   cases hv <;> first | exact ⟨_, rfl⟩ | exact h3.elim
  obtain ⟨ad, rfl⟩ := hp
  simpa [asAddr, Instr.loadAt, Instr.sureAddr] using hrun
theorem res_runL {n : Nat} (H : HRel P w0 s.h s.k m β w) (hT : TRel m β s.t a.tmps) (hn : a.tmps.size = n) : ∀ (rs : List ResultVar), resOkL P n s rs →
  ∃ vs : List Value, (rs.mapM (resSem a.tmps)).run P w = .ok vs w ∧ vs.length = rs.length ∧ ∀ (i : Nat) (v : Value) (r : ResultVar), vs[i]? = some v → rs[i]? = some r → R m β v (resV P s r)
 | [], _ => ⟨[], rfl, rfl, fun i v r h => by simp at h⟩
 | r :: rs, hr => by
  obtain ⟨v, h1, h2⟩ := res_run H hT hn r hr.1
  obtain ⟨vs, h3, h4, h5⟩ := res_runL H hT hn rs hr.2
  refine ⟨v :: vs, ?_, by simp [h4], fun i u q hu hq => ?_⟩
  ·rw [List.mapM_cons]
   simp only [Sem.run_bind, h1, Result.andThen_ok, h3, Sem.run_pure]
  ·cases i with
   | zero => simp at hu hq; subst hu; subst hq; exact h2
   | succ i => exact h5 i u q (by simpa using hu) (by simpa using hq)
theorem results_ok {fn : Func} (H : HRel P w0 s.h s.k m β w) (hT : TRel m β s.t a.tmps) (hn : a.tmps.size = fn.ntmps) (hr : resOkL P fn.ntmps s fn.results.toList) : ∃ v, (results fn a.tmps).run P w = .ok v w ∧ R m β v (resA P s fn.results.toList) := by
 obtain ⟨vs, h1, h2, h3⟩ := res_runL H hT hn fn.results.toList hr
 have hrun : (results fn a.tmps).run P w = .ok (if h : vs.toArray.size = 1 then vs.toArray[0] else .tuple vs.toArray) w := by
  rw [results_eq, Array.mapM_eq_mapM_toList]
  simp only [Sem.run_bind, Sem.run_map, h1, Result.andThen_ok, Sem.run_pure]
 refine ⟨_, hrun, ?_⟩
 generalize fn.results.toList = rs at *
 match rs, vs, h2, h3 with
 | [r], [v], _, h3 => exact h3 0 v r rfl rfl
 | [], [], _, _ => exact .tup (by rfl) fun i v a h => by simp at h
 | r1 :: r2 :: rs, v1 :: v2 :: vs, h2, h3 =>
  have : ¬ ((v1 :: v2 :: vs).toArray.size = 1) := by simp
  rw [dif_neg this]
  refine .tup (by simpa using h2) fun i v b hv hb => ?_
  rw [List.getElem?_map, Option.map_eq_some_iff] at hb
  obtain ⟨r, hr, rfl⟩ := hb
  exact h3 i v r (by simpa using hv) hr
theorem Co.R {k : Nat} {ren : Ren} {β' : Bl} {b b' : AV} (hc : Co k ren b b') : ∀ {v : Value}, R m β v b → (∀ n p, n.1 < k → β n = some p → β' n = some p) → (∀ y p, ren = some y → β y.2 = some p → β' y.1 = some p) → R m β' v b' := by
 induction hc with
 | refl h =>
  intro v hr h1 h2
  refine hr.names fun n hn => ?_
  obtain ⟨p, hp⟩ := hr.known n hn
  rw [hp]; exact h1 n p (h n hn) hp
 | dat h => intro v hr _ _; exact .d (hr.toD h)
 | junk => intro v _ _ _; exact .junk
 | own h => intro v hr h1 h2; cases hr with | own hd hb hv hl ha => exact .own hd (h2 _ _ h hb) hv hl ha
 | arr h => intro v hr h1 h2; cases hr with | arr hb hv hc hm ho => exact .arr (h2 _ _ h hb) hv hc hm ho
 | map h => intro v hr h1 h2; cases hr with | map hb hv => exact .map (h2 _ _ h hb) hv
 | ptr h => intro v hr h1 h2; cases hr with | ptr hb hv => exact .ptr (h2 _ _ h hb) hv
 | tup hl h ih =>
  intro v hr h1 h2
  cases hr with
  | tup hl' hr =>
   refine .tup (hl'.trans hl) fun i u b hu hb => ?_
   have hlt := (List.getElem?_eq_some_iff.1 hb).1
   have ha := List.getElem?_eq_getElem (l := _) (i := i) (by rw [hl]; exact hlt)
   exact ih i _ b ha hb (hr i u _ hu ha) h1 h2
def renN (ren : Ren) (n : Nm) : Nm := match ren with | some y => if n = y.1 then y.2 else n | none => n
theorem ap_some {l : List (Nm × Option Ob)} : ∀ {h : Heap} {n : Nm} {ob : Ob}, l.foldl (fun h x => upd h x.1 x.2) h n = some ob → h n = some ob ∨ ∃ x ∈ l, x.1 = n ∧ x.2 = some ob := by
 induction l with
 | nil => intro h n ob hh; exact .inl hh
 | cons x l ih =>
  intro h n ob hh
  rcases ih hh with h1 | ⟨y, hy, h2⟩
  ·simp only [upd] at h1
   split at h1
   ·rename_i e; exact .inr ⟨x, by simp, e.symm, h1⟩
   ·exact .inl h1
  ·exact .inr ⟨y, by simp [hy], h2⟩
theorem leave {k : Nat} {ren : Ren} {e : Eff} {h0 : Heap} {β0 : Bl} {m0 : Mem} {w1 : World} (H0 : HRel P w0 h0 k m0 β0 w1) (hb0 : β0.le β) (hbk : ∀ x, x.1 < k → β0 x = none → β x = none) (H : HRel P w0 s.h s.k m β w) (hh : HeapOK k ren e h0 s.h) (hwk : ∀ x ∈ e.wr, x.1.1 < k) (hrd : ∀ y, ren = some y → β0 y.1 = none) :
  ∃ β', β0.le β' ∧ (∀ n, (∀ x ∈ e.wr, x.1 ≠ n) → β0 n = none → β' n = none) ∧ HRel P w0 (e.ap h0) k m β' w ∧ (∀ n p, n.1 < k → β n = some p → β' n = some p) ∧ (∀ y p, ren = some y → β y.2 = some p → β' y.1 = some p) := by
 obtain ⟨hh1, hh2, hh3⟩ := hh
 let ρ : Nm → Nm := renN ren
 let β' : Bl := fun n => if n.1 < k then β (ρ n) else none
 have hρ1 : ∀ n, (∀ y, ren = some y → n ≠ y.1) → ρ n = n := fun n hn => by
  simp only [ρ, renN]
  split
  ·rename_i y; rw [if_neg (hn y rfl)]
  ·rfl
 have hρ2 : ∀ y, ren = some y → ρ y.1 = y.2 := fun y hy => by subst hy; simp [ρ, renN]
 have hcase : ∀ n, (∀ y, ren = some y → n ≠ y.1) ∨ ∃ y, ren = some y ∧ n = y.1 := fun n => by
  cases hr : ren with
  | none => exact .inl fun y hy => by cases hy
  | some y =>
   by_cases e : n = y.1
   ·exact .inr ⟨y, rfl, e⟩
   ·exact .inl fun z hz => by cases hz; exact e
 have hβ : ∀ n p, n.1 < k → β n = some p → β' n = some p := fun n p hn hp => by
  simp only [β', if_pos hn]
  rw [hρ1 n ?_]
  ·exact hp
  ·rintro y hy rfl
   rw [hbk _ hn (hrd y hy)] at hp
   cases hp
 have hobk : ∀ n ob, e.ap h0 n = some ob → n.1 < k := fun n ob ho => by
  rcases ap_some ho with h | ⟨x, hx, rfl, _⟩
  ·obtain ⟨p, hp, _⟩ := H0.obj n ob h; exact H0.dom n p hp
  ·exact hwk x hx
 have hobρ : ∀ n ob, e.ap h0 n = some ob → s.h (ρ n) = some ob := fun n ob ho => by
  rcases hcase n with h | ⟨y, hy, rfl⟩
  ·rw [hρ1 n h, hh1 n (hobk n ob ho) h]; exact ho
  ·obtain ⟨_, _, _, _, ob', h1, h2, _⟩ := hh2 y hy
   rw [hρ2 y hy]
   rw [ho] at h1; cases h1; exact h2
 have hnames : ∀ n ob, e.ap h0 n = some ob → ∀ x ∈ ob.names, x.1 < k := fun n ob ho x hx => by
  rcases ap_some ho with h | ⟨y, hy, rfl, h2⟩
  ·obtain ⟨p, hp, hob⟩ := H0.obj n ob h
   cases ob with
   | cells e cs =>
    obtain ⟨_, c, c1, c2, c3, c4⟩ := hob
    obtain ⟨i, a, hi, ha⟩ := mem_names hx
    have hlt := (List.getElem?_eq_some_iff.1 hi).1
    obtain ⟨q, hq⟩ := (c3 i _ a (Array.getElem?_eq_getElem (by omega)) hi).2.known x ha
    exact H0.dom x q hq
   | iter src n' seen =>
    obtain ⟨_, q, sn, h1, _⟩ := hob
    simp [Ob.names] at hx; subst hx
    exact H0.dom _ q h1
   | gro e len cs =>
    obtain ⟨i, a, hi, ha⟩ := mem_names hx
    have hlt := (List.getElem?_eq_some_iff.1 hi).1
    rcases hob.2 with ⟨_, _, h3⟩ | ⟨c, c1, c2, c3, c4, c5, c6, c7⟩
    ·subst h3; cases hi
    ·have hm : len * szT P e ≤ p.2 * szT P e := Nat.mul_le_mul_right _ c3
     obtain ⟨q, hq⟩ := (c6 i _ a (Array.getElem?_eq_getElem (by omega)) hi).2.known x ha
     exact H0.dom x q hq
   | loop l st fn ps assign body d ts =>
    obtain ⟨_, _, tmps, _, h3, h4⟩ := hob
    obtain ⟨i, a, hi, ha⟩ := mem_names hx
    have hlt := (List.getElem?_eq_some_iff.1 hi).1
    obtain ⟨q, hq⟩ := (h4 i _ a (Array.getElem?_eq_getElem (by omega)) hi).known x ha
    exact H0.dom x q hq
   | _ => simp [Ob.names] at hx
  ·exact hh3 y hy ob h2 x hx
 have hdomβ' : ∀ n p, β' n = some p → n.1 < k ∧ β (ρ n) = some p := fun n p hn => by
  simp only [β'] at hn
  split at hn
  ·exact ⟨‹_›, hn⟩
  ·cases hn
 have hinjρ : ∀ x y, x.1 < k → y.1 < k → ρ x = ρ y → x = y := fun x y hx hy hxy => by
  rcases hcase x with h | ⟨z, hz, rfl⟩
  ·rcases hcase y with h' | ⟨z, hz, rfl⟩
   ·rw [hρ1 x h, hρ1 y h'] at hxy; exact hxy
   ·rw [hρ1 x h, hρ2 z hz] at hxy
    have := (hh2 z hz).2.1
    rw [hxy] at hx; omega
  ·rcases hcase y with h' | ⟨z', hz', rfl⟩
   ·rw [hρ1 y h', hρ2 z hz] at hxy
    have := (hh2 z hz).2.1
    rw [← hxy] at hy; omega
   ·rw [hz] at hz'; cases hz'; rfl
 refine ⟨β', fun n p hp => let ⟨q, q1, q2⟩ := hb0 n p hp; ⟨q, hβ n q (H0.dom n p hp) q1, q2⟩, fun n hn h0 => ?_, ⟨H.ext, H.mem, fun n p hp => (hdomβ' n p hp).1, ?_, ?_, ?_⟩, hβ, fun y p hy hp => ?_⟩
 ·by_cases hk : n.1 < k
  ·have hne : ∀ y, ren = some y → n ≠ y.1 := fun y hy e => by
    obtain ⟨_, _, _, ⟨z, hz, hz'⟩, _⟩ := hh2 y hy
    exact hn z hz (hz'.trans e.symm)
   simp only [β', if_pos hk, hρ1 n hne]
   exact hbk n hk h0
  ·simp only [β', if_neg hk]
 ·intro n p ob hp ho hr
  exact H.new (ρ n) p ob (hdomβ' n p hp).2 (hobρ n ob ho) hr
 ·intro n ob ho
  obtain ⟨p, hp, hob⟩ := H.obj (ρ n) ob (hobρ n ob ho)
  refine ⟨p, by simp only [β', if_pos (hobk n ob ho)]; exact hp, ?_⟩
  have hn := hnames n ob ho
  cases ob with
  | cells e cs =>
   obtain ⟨hver, c, c1, c2, c3, c4⟩ := hob
   refine ⟨hver, c, c1, c2, fun i v a hi ha => ⟨(c3 i v a hi ha).1, (c3 i v a hi ha).2.names fun x hx => ?_⟩, c4⟩
   obtain ⟨q, hq⟩ := (c3 i v a hi ha).2.known x hx
   rw [hq]
   exact hβ x q (hn x (names_mem ha hx)) hq
  | perm e len => exact hob
  | map es => exact hob
  | iter src n' seen =>
   obtain ⟨h1, q, sn, h2, h3⟩ := hob
   exact ⟨h1, q, sn, hβ src q (hn src (by simp [Ob.names])) h2, h3⟩
  | bag es0 => exact hob
  | raw b o => exact hob
  | loop l st fn ps assign body d ts =>
   obtain ⟨hver, h1, tmps, h2, h3, h4⟩ := hob
   refine ⟨hver, h1, tmps, h2, h3, fun i v a hi ha => (h4 i v a hi ha).names fun x hx => ?_⟩
   obtain ⟨q, hq⟩ := (h4 i v a hi ha).known x hx
   rw [hq]
   exact hβ x q (hn x (names_mem ha hx)) hq
  | gro e len cs =>
   obtain ⟨hver, hob⟩ := hob
   refine ⟨hver, ?_⟩
   rcases hob with h | ⟨c, c1, c2, c3, c4, c5, c6, c7⟩
   ·exact .inl h
   ·refine .inr ⟨c, c1, c2, c3, c4, c5, fun i v a hi ha => ⟨(c6 i v a hi ha).1, (c6 i v a hi ha).2.names fun x hx => ?_⟩, c7⟩
    obtain ⟨q, hq⟩ := (c6 i v a hi ha).2.known x hx
    rw [hq]
    exact hβ x q (hn x (names_mem ha hx)) hq
 ·intro x y p p' o o' hx hy hp hp' hr hr' hpp
  exact hinjρ x y (hobk x o hx) (hobk y o' hy) (H.inj _ _ p p' o o' (hobρ x o hx) (hobρ y o' hy) (hdomβ' x p hp).2 (hdomβ' y p' hp').2 hr hr' hpp)
 ·have hk := (hh2 y hy).1
  simp only [β', if_pos hk, hρ2 y hy]
  exact hp
def slotsOf (args : List AV) (i : Nat) : AV := args.getD i .junk
theorem tri_enter {f : FuncId} {fn : Func} {c : Code} {args : List AV} {e : Eff} {n : Nat} (hf : P.funcs[f]? = some fn) (hb : fn.body = some c) (hnt : fn.ntmps = n) (hlen : args.length ≤ n)
  (h : ∀ (w0 : GW) (h0 : Heap) (k : Nat), (∀ x ∈ e.rd, h0 x.1 = x.2) → (∀ x ∈ e.wr, x.1.1 < k) → awp P w0 n c (retQ P fn e h0 k) ⟨slotsOf args, h0, k⟩) : Tri P f args e := by
 subst hnt
 intro w0 h0 k m β w cargs H hrd hwr hsz hargs
 refine calls_of_wp hf hb (wp_mono (h w0 h0 k hrd (fun x hx => (hwr x hx).1) m β _ w ?_ H ?_) ?_)
 ·simp; omega
 ·intro i v hi
  show R m β v (args.getD i .junk)
  by_cases hlt : i < cargs.size
  ·rw [Array.getElem?_append_left hlt] at hi
   have ha : args[i]? = some (args[i]'(by omega)) := List.getElem?_eq_getElem (by omega)
   have := hargs i v _ hi ha
   rwa [show args.getD i AV.junk = args[i]'(by omega) from by simp only [List.getD_eq_getElem?_getD, ha, Option.getD_some]]
  ·rw [show args.getD i AV.junk = .junk from by simp only [List.getD_eq_getElem?_getD, List.getElem?_eq_none (show args.length ≤ i by omega)]; rfl]
   exact .junk
 ·rintro en a' w' ⟨s', m', β', hq, g1, g2, g3, g4, g5⟩
  have fin : RetOK P fn e h0 k s' → a'.defers = [] ∧ ∃ v, (results fn a'.tmps).run P w' = .ok v w' ∧ ∃ v' m' β', Ending.returned v = .returned v' ∧ m.le m' ∧ β.le β' ∧ (∀ n, (∀ x ∈ e.wr, x.1 ≠ n) → β n = none → β' n = none) ∧ HRel P w0 (e.ap h0) k m' β' w' ∧ R m' β' v' e.val := by
   rintro ⟨h1, ren, h2, h3⟩
   obtain ⟨v, hv, hR⟩ := results_ok g4.heap g4.slots g1 h1
   obtain ⟨β'', k1, k2, k3, k4, k5⟩ := leave H g4.bl g5 g4.heap h3 (fun x hx => (hwr x hx).1) (fun y hy => by
    obtain ⟨_, _, q1, ⟨z, hz, hz'⟩, _⟩ := h3.2.1 y hy
    rw [← hz'] at q1 ⊢
    exact (hwr z hz).2 q1)
   exact ⟨g2, v, hv, v, m', β'', rfl, g4.mem, k1, k2, k3, h2.R hR k4 k5⟩
  cases en with
  | normal => exact fin hq
  | ret => exact fin hq
  | _ => exact hq.elim
def Fr (k : Nat) (h0 h : Heap) : Prop := ∀ x : Nm, x.1 < k → h x = h0 x
theorem Fr.rfl' (k : Nat) (h : Heap) : Fr k h h := fun _ _ => rfl
theorem Fr.upd {k : Nat} {h0 h : Heap} (hf : Fr k h0 h) {n : Nm} (hn : k ≤ n.1) (o : Option Ob) : Fr k h0 (upd h n o) := fun x hx => by
 rw [upd_ne _ _ (fun e => by subst e; omega)]; exact hf x hx
theorem Fr.updk {k : Nat} {h0 h : Heap} (hf : Fr k h0 h) {k' i : Nat} (hn : k ≤ k') (o : Option Ob) : Fr k h0 (Go.Proofs.YtmeekpinkfpnhabDoor.upd h (k', i) o) := hf.upd hn o
theorem ret_pure {fn : Func} {v : AV} {h0 : Heap} {k : Nat} {s : St} (h1 : resOkL P fn.ntmps s fn.results.toList) (h2 : Co k none (resA P s fn.results.toList) v) (h3 : Fr k h0 s.h) : RetOK P fn (pure' v) h0 k s :=
 ⟨h1, none, h2, fun x hx _ => h3 x hx, fun y hy => (by cases hy), fun x hx => (by cases hx)⟩
end
end Go.Proofs.YtmeekpinkfpnhabDoor

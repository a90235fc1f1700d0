/- Literals and clauses as data. -/
import Derived.Test.YtmeekpinkfpnhabDoorP04
import Derived.Test.YtmeekpinkfpnhabDoorP05
import Derived.Test.YtmeekpinkfpnhabDoorP06
import Derived.ProofKit
import Derived.OpenShut
import Derived.JoinedCond
import Derived.Test.YtmeekpinkfpnhabDoorRows
set_option linter.all false
namespace Go.Proofs.YtmeekpinkfpnhabDoor
open Go.RowKit
set_option maxHeartbeats 1000000 in
theorem all_any (S S' : Nat → Prop) (g : List Int) (l : List Tm) (y x : Value) (w : World) (hg : SgV w S' g y) (hl : SlTV w S l x) :
  Calls Tryd.prog 20 #[y, x] w fun e w' => e = .returned (.int .i64 (allOk g l)) ∧ Ext w w' := by
 have hg0 := hg
 obtain ⟨ga, gc, rfl, g1, g2, g3⟩ := hg
 obtain ⟨a, cap, rfl, h1, h2, h3⟩ := hl
 unfold maxLen at h2
 have HG := hid hg0; clear hg0
 have HA := hid (show allOk g l = if sigOk g ≠ 0 then sigOk g else ownL g l from rfl)
 go_enter Tryd.func20, Tryd.ntmps20
 go_wp2_with fail
 refine (signature_any S' g _ _ (HG.out.ext (Ext.one _ _))).mono ?_
 rintro e w1 ⟨rfl, hx1⟩
 have hx0 := (Ext.one _ _).step hx1
 generalize sigOk g = q at *
 by_cases hq : q = 0
 ·subst hq
  go_wp2_with fail
  go_loopw [16] (fun i wr => ∃ k : Nat, k ≤ l.length ∧ i = .int .i64 k ∧ ownL g (l.drop k) = ownL g l ∧ Ext w1 wr) (fun i _ => l.length - (intOf i).toNat)
  case atStart => exact ⟨0, by omega, rfl, rfl, Ext.rfl' _⟩
  case round =>
   obtain ⟨k, hk, rfl, hc, hx⟩ := hrel
   have HC := hid hc; clear hc
   have b0 : wr.cell? ⟨w.heap.size, 0, none⟩ = some (.slice ga g.length gc) := (hx1.step hx).boxed 0
   have hz0 := (hx1.step hx).sz1
   have hxw := hx0.step hx
   by_cases hlt : k < l.length
   ·obtain ⟨b, o, rfl⟩ := h3.some_ (by omega)
    obtain ⟨hb, d1, d2, a1, cap1, d3, l1, l2, s1⟩ := SlT.readAt (h3.ext hxw) hlt
    have hfl := hid (show ownL g (l.drop k) = if own g l[k] ≠ 0 then own g l[k] else ownL g (l.drop (k + 1)) by rw [List.drop_eq_getElem_cons hlt, ownL])
    go_wp2_with fail
    refine (own_any S S' g l[k] _ _ _ (HG.out.ext (hxw.new _)) ⟨a1, cap1, rfl, l1, l2, s1.ext (Ext.one _ _)⟩).mono ?_
    rintro e w' ⟨rfl, hx'⟩
    generalize own g l[k] = q at *
    by_cases hq0 : q = 0
    ·subst hq0
     go_wp2_with fail
     go_roundw
     case rel => exact ⟨k + 1, by omega, by go_num, by rw [← HC.out, hfl.out]; rfl, (hx.new _).step hx'⟩
     case measure => simp [intOf]; omega
    ·have hq1 : (q != 0) = true := by simpa using hq0
     go_wp2_with fail
     go_ret
     refine ⟨ret_int ?_, (hxw.new _).step hx'⟩
     rw [HA.out, if_neg (by simp), ← HC.out, hfl.out, if_pos hq0]
   ·obtain rfl : k = l.length := by omega
    go_wp2_with fail
    go_ret
    refine ⟨ret_int ?_, hxw⟩
    rw [HA.out, if_neg (by simp), ← HC.out, List.drop_length, ownL]
 ·have hq1 : (q != 0) = true := by simpa using hq
  go_wp2_with fail
  go_ret
  exact ⟨ret_int (by rw [HA.out, if_pos hq]), hx0⟩
set_option maxHeartbeats 1000000 in
theorem checkSig_any (S : Nat → Prop) (g : List Int) (y : Value) (w : World) (hg : SgV w S g y) : Calls Tryd.prog 9 #[y] w fun e w' => e = .returned (.int .i64 (sigOk g)) ∧ Ext w w' := by
 obtain ⟨a, cap, rfl, h1, h2, h3⟩ := hg
 unfold maxLen at h2
 by_cases h12 : 12 < g.length
 ·go_enter Tryd.func9, Tryd.ntmps9
  go_wp2_with fail
  go_ret
  exact ⟨ret_int (by rw [sigOk, if_pos h12]), Ext.one _ _⟩
 ·have HS := hid (show sigOk g = if g.any (fun n => decide (n < 0) || decide (n > 3)) then 3 else 0 by rw [sigOk, if_neg h12])
  go_enter Tryd.func9, Tryd.ntmps9
  go_wp2_with fail
  go_loopw [3] (fun i wr => ∃ k : Nat, k ≤ g.length ∧ i = .int .i64 k ∧ (g.take k).any (fun n => decide (n < 0) || decide (n > 3)) = false ∧ Ext (w.alloc (.cells #[.slice a g.length cap] 24)) wr) (fun i _ => g.length - (intOf i).toNat)
  case atStart => exact ⟨0, by omega, rfl, by simp, Ext.rfl' _⟩
  case round =>
   obtain ⟨k, hk, rfl, hc, hx⟩ := hrel
   have HC := hid hc; clear hc
   have b0 : wr.cell? ⟨w.heap.size, 0, none⟩ = some (.slice a g.length cap) := hx.boxed 0
   have hxw := (Ext.one _ _).step hx
   by_cases hlt : k < g.length
   ·obtain ⟨b, o, rfl⟩ := h3.some_ (by omega)
    obtain ⟨_, _, hc⟩ := (h3.ext hxw).at_ hlt
    have hc : wr.cell? ⟨b, o + k, none⟩ = some (.int .i64 g[k]) := by simpa using hc
    have HY := hid (show btw g[k] 0 3 = false → g.any (fun n => decide (n < 0) || decide (n > 3)) = true from fun h => List.any_eq_true.2 ⟨g[k], List.getElem_mem hlt, by simp [btw] at h ⊢; omega⟩)
    have HZ := hid (fun h => any_take_succ hlt HC.out (p := fun n => decide (n < 0) || decide (n > 3)) h)
    have HN := hid (show btw g[k] 0 3 = true → (decide (g[k] < 0) || decide (g[k] > 3)) = false from fun h => by simp [btw] at h ⊢; omega)
    generalize g[k] = n at *
    cases hq : btw n 0 3
    ·go_wp2_with (go_at_call 26; refine (between_any _ _ _ _).mono ?_; rintro e w' ⟨rfl, rfl⟩)
     go_ret
     exact ⟨ret_int (by rw [HS.out, HY.out hq]; rfl), hxw⟩
    ·go_wp2_with (go_at_call 26; refine (between_any _ _ _ _).mono ?_; rintro e w' ⟨rfl, rfl⟩)
     go_roundw
     case rel => exact ⟨k + 1, by omega, by go_num, HZ.out (HN.out hq), hx⟩
     case measure => simp [intOf]; omega
   ·obtain rfl : k = g.length := by omega
    have hn := HC.out
    rw [List.take_length] at hn
    have HN := hid (show sigOk g = 0 by rw [HS.out, hn]; rfl)
    clear hn
    go_wp2_with fail
    go_ret
    exact ⟨ret_int HN.out.symm, hxw⟩
def SameRSpec (t : Tm) : Prop := ∀ (S S' : Nat → Prop) (u : Tm) (x y : Value) (w : World), TmV w S t x → TmV w S' u y →
  Calls Tryd.prog 18 #[x, y] w fun e w' => e = .returned (.bool (same t u)) ∧ Ext w w'
set_option maxRecDepth 100000 in
set_option maxHeartbeats 1000000 in
theorem sameR_step (t : Tm) (ih : ∀ u ∈ t.us, SameRSpec u) : SameRSpec t := by
 rintro S S' u x y w ⟨a, cap, rfl, h1, h2, h3⟩ ⟨a', cap', rfl, h1', h2', h3'⟩
 have HE := hid (same_eq t u)
 unfold maxLen at h2 h2'
 by_cases hv : t.v = u.v
 ·have hv' : (t.v != u.v) = false := by simpa using hv
  by_cases hf : t.f = u.f
  ·have hf' : (t.f != u.f) = false := by simpa using hf
   by_cases hl : t.us.length = u.us.length
   ·have hl' : ((t.us.length : Int) != u.us.length) = false := by simp [hl]
    have HL := hid hl; clear hl
    have HV := hid (show same t u = sameL t.us u.us by rw [HE.out, hv, hf]; simp)
    clear hv hf
    go_enter Tryd.func18, Tryd.ntmps18
    go_wp2_with fail
    go_loopw [5] (fun i wr => ∃ k : Nat, k ≤ t.us.length ∧ i = .int .i64 k ∧ sameL (t.us.take k) (u.us.take k) = true ∧ Ext ((w.alloc (.cells #[.int .i64 t.v, .int .i64 t.f, .slice a t.us.length cap] 27)).alloc (.cells #[.int .i64 u.v, .int .i64 u.f, .slice a' u.us.length cap'] 27)) wr) (fun i _ => t.us.length - (intOf i).toNat)
    case atStart => exact ⟨0, by omega, rfl, rfl, Ext.rfl' _⟩
    case round =>
     obtain ⟨k, hk, rfl, hs, hx⟩ := hrel
     have HS := hid hs; clear hs
     have hx0 := (Ext.two _ _ _).step hx
     have b2 : wr.cell? ⟨w.heap.size, 2, none⟩ = some (.slice a t.us.length cap) := hx.boxed2 2
     have c2 : wr.cell? ⟨w.heap.size + 1, 2, none⟩ = some (.slice a' u.us.length cap') := hx.boxed2' 2
     by_cases hlt : k < t.us.length
     ·have hlt' : k < u.us.length := by have := HL.out; omega
      obtain ⟨b, o, rfl⟩ := h3.some_ (by omega)
      obtain ⟨b', o', rfl⟩ := h3'.some_ (by omega)
      obtain ⟨hz, d0, d1, a1, cap1, d2, l1, l2, s1⟩ := SlT.readAt (h3.ext hx0) hlt
      obtain ⟨hz', d0', d1', a1', cap1', d2', l1', l2', s1'⟩ := SlT.readAt (h3'.ext hx0) hlt'
      have IH := hid (ih _ (List.getElem_mem hlt)); clear ih
      have q1 : (0 : Int) ≤ (k : Int) := by omega
      have q2 : (k : Int) < (t.us.length : Int) := by omega
      have q3 : (k : Int) < (u.us.length : Int) := by omega
      go_wp2_with fail
      refine wp_region_mild (by kernel_rfl) (by kernel_rfl) ?_
      intro I _ W hE hC
      have f1 := mild_cell hE b2
      have f2 := mild_cell hE c2
      have f3 := mild_cell hE d0
      have f4 := mild_cell hE d1
      have f5 := mild_cell hE d2
      have f6 := mild_cell hE d0'
      have f7 := mild_cell hE d1'
      have f8 := mild_cell hE d2'
      repeat (go_big_quiet_step ((refine mild_call hE hC (IH.out S S' _ _ _ _ ⟨a1, cap1, rfl, l1, l2, s1.ext (hE _)⟩ ⟨a1', cap1', rfl, l1', l2', s1'.ext (hE _)⟩))))
      refine wpQuiet_nil ?_
      intro _ hw'
      obtain ⟨i, hw''⟩ := hw'
      subst hw''
      have hxi := hx.step (hE i)
      have HS1 := hid (fun h => sameL_take hlt hlt' HS.out h)
      have HS2 := hid (fun h => sameL_not hlt hlt' h)
      generalize same t.us[k] u.us[k] = q at *
      cases q
      ·go_wp2_with fail
       go_ret
       exact ⟨ret_bool (by rw [HV.out, HS2.out (by simp)]), (Ext.two _ _ _).step hxi⟩
      ·go_wp2_with fail
       go_roundw
       case rel => exact ⟨k + 1, by omega, by go_num, HS1.out (by simp), hxi⟩
       case measure => simp [intOf]; omega
     ·obtain rfl : k = t.us.length := by omega
      go_wp2_with fail
      go_ret
      have hs := HS.out
      rw [List.take_length, HL.out, List.take_length] at hs
      exact ⟨ret_bool (by rw [HV.out, hs]), hx0⟩
   ·have hl' : ((t.us.length : Int) != u.us.length) = true := by simp; omega
    have HN := hid (show same t u = false by rw [HE.out, sameL_len hl]; simp)
    clear ih hl hv hf
    go_enter Tryd.func18, Tryd.ntmps18
    go_wp2_with fail
    go_ret
    exact ⟨ret_bool HN.out.symm, Ext.two _ _ _⟩
  ·have hf' : (t.f != u.f) = true := by simpa using hf
   have HN := hid (show same t u = false by rw [HE.out]; simp [hf])
   clear ih hv hf
   go_enter Tryd.func18, Tryd.ntmps18
   go_wp2_with fail
   go_ret
   exact ⟨ret_bool HN.out.symm, Ext.two _ _ _⟩
 ·have hv' : (t.v != u.v) = true := by simpa using hv
  have HN := hid (show same t u = false by rw [HE.out]; simp [hv])
  clear ih hv
  go_enter Tryd.func18, Tryd.ntmps18
  go_wp2_with fail
  go_ret
  exact ⟨ret_bool HN.out.symm, Ext.two _ _ _⟩
theorem sameR_any (t : Tm) : SameRSpec t := Tm.ind sameR_step t
section
variable {P : Program} {w0 : GW} {w w' : World} {h : Heap} {k : Nat} {m : Mem} {β : Bl}
theorem HRel.grow (H : HRel P w0 h k m β w) (hx : Ext w w') : HRel P w0 h k m β w' := by
 refine ⟨H.ext.trans (hx.mono H.size), fun b o v hv => ?_, H.dom, H.new, fun n ob ho => ?_, H.inj⟩
 ·obtain ⟨h1, h2⟩ := H.mem b o v hv
  exact ⟨hx.some_ h1, h2⟩
 ·obtain ⟨p, hp, hob⟩ := H.obj n ob ho
  refine ⟨p, hp, hob.keep (.rfl' m) (.rfl' β) fun hr => ⟨hx.block _ (hob.lt hr), fun _ => rfl⟩⟩
def CellsAt (m : Mem) (b o : Nat) (x : DV) : Prop := ∀ (j : Nat) (d : DV), x.cells[j]? = some d → ∃ c, m b (o + j) = some c ∧ RD m c d
theorem RD.int_ {x : Value} {n : Int} (h : RD m x (iD n)) : x = .int .i64 n := by cases h; rfl
theorem RD.slice_ {x : Value} {xs : List DV} (h : RD m x (.sl xs)) : ((∃ a, x = .slice a 0 0) ∧ xs = []) ∨ ∃ b o cap, x = .slice (some ⟨b, o, none⟩) xs.length cap ∧ xs.length ≤ cap ∧ cap ≤ maxLen := by
 cases h with
 | nil => exact .inl ⟨⟨_, rfl⟩, rfl⟩
 | sl hn hc hm _ _ _ => subst hn; exact .inr ⟨_, _, _, rfl, hc, hm⟩
theorem RD.sl_at {b o n cap sz : Nat} {α : Type} {g : α → DV} {ts : List α} (hg : ∀ t, (g t).cells.length = sz) (h : RD m (.slice (some ⟨b, o, none⟩) n cap) (.sl (ts.map g))) {i : Nat} (hi : i < ts.length) : CellsAt m b (o + i * sz) (g ts[i]) := by
 intro j d hj
 refine h.cell (sz := sz) (fun x hx => ?_) (i := i) (x := g ts[i]) ?_ hj
 ·obtain ⟨t, _, rfl⟩ := List.mem_map.1 hx; exact hg t
 ·rw [List.getElem?_map, List.getElem?_eq_getElem hi]; rfl
variable {S : Nat → Prop} (hm : ∀ b o v, m b o = some v → w.cell? ⟨b, o, none⟩ = some v) (hS : ∀ b, b < w.heap.size → S b)
include hm hS
theorem slice_sl {α : Type} {g : α → DV} {sz : Nat} (hg : ∀ t, (g t).cells.length = sz) (hsz : 0 < sz) {Rr : α → Addr → Prop} {ts : List α} {x : Value} (h : RD m x (.sl (ts.map g))) (hc : ∀ t ∈ ts, ∀ b o, CellsAt m b o (g t) → Rr t ⟨b, o, none⟩) :
  ∃ a cap, x = .slice a ts.length cap ∧ ts.length ≤ cap ∧ cap ≤ maxLen ∧ Sl w S sz Rr ts a := by
 rcases h.slice_ with ⟨⟨a, rfl⟩, h0⟩ | ⟨b, o, cap, rfl, h1, h2⟩
 ·have : ts = [] := by simpa using h0
  subst this
  exact ⟨a, 0, rfl, by simp, by simp [maxLen], fun i hi => absurd hi (Nat.not_lt_zero _)⟩
 ·rw [List.length_map] at h1 h ⊢
  refine ⟨_, cap, rfl, h1, h2, fun i hi => ?_⟩
  have hca := h.sl_at hg hi
  obtain ⟨d, hd⟩ : ∃ d, (g ts[i]).cells[0]? = some d := ⟨_, List.getElem?_eq_getElem (l := (g ts[i]).cells) (by rw [hg ts[i]]; exact hsz)⟩
  obtain ⟨c, hc0, _⟩ := hca 0 d hd
  have hb := cell_lt (hm _ _ _ hc0)
  exact ⟨b, o, rfl, hS b hb, hb, hc _ (List.getElem_mem hi) _ _ hca⟩
theorem tm_cells (t : Tm) : ∀ b o, CellsAt m b o (tmDV t) → TmC w S t ⟨b, o, none⟩ := by
 induction t using Tm.ind with
 | h t ih =>
  intro b o hc
  rw [TmC.iff]
  unfold CellsAt at hc
  simp only [tmDV_cells] at hc
  obtain ⟨c0, h0, r0⟩ := hc 0 _ rfl
  obtain ⟨c1, h1, r1⟩ := hc 1 _ rfl
  obtain ⟨c2, h2, r2⟩ := hc 2 _ rfl
  rw [r0.int_] at h0; rw [r1.int_] at h1
  simp only [add_none]
  obtain ⟨a, cap, rfl, k1, k2, k3⟩ := slice_sl hm hS (sz := 3) (fun t => by rw [tmDV_cells]; rfl) (by decide) (Rr := TmC w S) r2 fun u hu b o hcc => ih u hu b o hcc
  exact ⟨hm _ _ _ h0, hm _ _ _ h1, a, cap, hm _ _ _ h2, k1, k2, k3⟩
theorem tm_val {t : Tm} {x : Value} (h : RD m x (tmDV t)) : TmV w S t x := by
 rw [tmDV_eq] at h
 cases h with
 | st hl h1 hc =>
  rename_i cs
  obtain ⟨l⟩ := cs
  match l, hl with
  | [c0, c1, c2], _ =>
   have r0 := hc 0 c0 _ rfl rfl
   have r1 := hc 1 c1 _ rfl rfl
   have r2 := hc 2 c2 _ rfl rfl
   rw [r0.int_, r1.int_]
   obtain ⟨a, cap, rfl, k1, k2, k3⟩ := slice_sl hm hS (sz := 3) (fun t => by rw [tmDV_cells]; rfl) (by decide) (Rr := TmC w S) r2 fun u hu b o hcc => tm_cells hm hS u b o hcc
   exact ⟨a, cap, rfl, k1, k2, k3⟩
theorem tms_val {ts : List Tm} {x : Value} (h : RD m x (.sl (ts.map tmDV))) : SlTV w S ts x :=
 slice_sl hm hS (sz := 3) (fun t => by rw [tmDV_cells]; rfl) (by decide) (Rr := TmC w S) h fun u _ b o hcc => tm_cells hm hS u b o hcc
theorem ints_val {is : List Int} {x : Value} (h : RD m x (.sl (is.map iD))) : SlIV w S is x :=
 slice_sl hm hS (sz := 1) (fun t => rfl) (by decide) (Rr := IntC w) h fun n _ b o hcc => by
  obtain ⟨c, hc, r⟩ := hcc 0 _ rfl
  rw [r.int_] at hc
  exact hm _ _ _ hc
end
def sgDV (g : List Int) : DV := .st [.sl (g.map iD)]
@[go_sem] theorem sgDV_cells (g : List Int) : (sgDV g).cells = [.sl (g.map iD)] := rfl
@[go_sem] theorem sgDV_fold (g : List Int) : DV.st [.sl (g.map iD)] = sgDV g := rfl
theorem sg_val {w : World} {m : Mem} {S : Nat → Prop} (hm : ∀ b o v, m b o = some v → w.cell? ⟨b, o, none⟩ = some v) (hS : ∀ b, b < w.heap.size → S b) {g : List Int} {x : Value} (h : RD m x (sgDV g)) : SgV w S g x := by
 unfold sgDV at h
 cases h with
 | st hl h1 hc =>
  rename_i cs
  obtain ⟨l⟩ := cs
  match l, hl with
  | [c0], _ =>
   obtain ⟨a, cap, rfl, k1, k2, k3⟩ := ints_val hm hS (hc 0 c0 _ rfl rfl)
   exact ⟨a, cap, rfl, k1, k2, k3⟩
abbrev Here (w : World) : Nat → Prop := fun b => b < w.heap.size
theorem tri_of {P : Program} {f : FuncId} {args : List AV} {v : Value} (h : ∀ (w : World) (m : Mem) (β : Bl) (cargs : Array Value), (∀ b o v, m b o = some v → w.cell? ⟨b, o, none⟩ = some v) → cargs.size = args.length →
  (∀ (i : Nat) (x : Value) (a : AV), cargs[i]? = some x → args[i]? = some a → R m β x a) → Calls P f cargs w fun e w' => e = .returned v ∧ Ext w w') (hv : v.oneCell' = true) : Tri P f args (pure' (.d (.v v))) := by
 intro w0 hh k m β w cargs H _ _ hsz hargs
 refine (h w m β cargs (fun b o v hv => (H.mem b o v hv).1) hsz hargs).mono ?_
 rintro e w' ⟨rfl, hx⟩
 exact ⟨v, m, β, rfl, .rfl' m, .rfl' β, fun _ _ h => h, H.grow hx, .d (.v hv)⟩
theorem R.dat_ {m : Mem} {β : Bl} {x : Value} {d : DV} (h : R m β x (.d d)) : RD m x d := by cases h; assumption
theorem tri_of1 {P : Program} {f : FuncId} {a : DV} {v : Value} (hv : v.oneCell' = true) (h : ∀ (w : World) (m : Mem) (x : Value), (∀ b o v, m b o = some v → w.cell? ⟨b, o, none⟩ = some v) → RD m x a → Calls P f #[x] w fun e w' => e = .returned v ∧ Ext w w') :
  Tri P f [.d a] (pure' (.d (.v v))) := tri_of (fun w m β cargs hm hsz hargs => by
 obtain ⟨l⟩ := cargs
 match l, hsz with
 | [x], _ => exact h w m x hm (hargs 0 x _ rfl rfl).dat_) hv
theorem tri_of2 {P : Program} {f : FuncId} {a b : DV} {v : Value} (hv : v.oneCell' = true) (h : ∀ (w : World) (m : Mem) (x y : Value), (∀ b o v, m b o = some v → w.cell? ⟨b, o, none⟩ = some v) → RD m x a → RD m y b → Calls P f #[x, y] w fun e w' => e = .returned v ∧ Ext w w') :
  Tri P f [.d a, .d b] (pure' (.d (.v v))) := tri_of (fun w m β cargs hm hsz hargs => by
 obtain ⟨l⟩ := cargs
 match l, hsz with
 | [x, y], _ => exact h w m x y hm (hargs 0 x _ rfl rfl).dat_ (hargs 1 y _ rfl rfl).dat_) hv
section
variable (g : List Int) (t u : Tm) (l : List Tm)
theorem signature_tri : Tri Tryd.prog 22 [.d (sgDV g)] (pure' (iA (sigOk g))) := tri_of1 rfl fun w m x hm hx => signature_any (Here w) g x w (sg_val hm (fun _ h => h) hx)
theorem checkSig_tri : Tri Tryd.prog 9 [.d (sgDV g)] (pure' (iA (sigOk g))) := tri_of1 rfl fun w m x hm hx => checkSig_any (Here w) g x w (sg_val hm (fun _ h => h) hx)
theorem own_tri : Tri Tryd.prog 34 [.d (sgDV g), .d (tmDV t)] (pure' (iA (own g t))) := tri_of2 rfl fun w m x y hm hx hy => own_any (Here w) (Here w) g t x y w (sg_val hm (fun _ h => h) hx) (tm_val hm (fun _ h => h) hy)
theorem checkTerm_tri : Tri Tryd.prog 25 [.d (sgDV g), .d (tmDV t)] (pure' (iA (own g t))) := tri_of2 rfl fun w m x y hm hx hy => checkTerm_any (Here w) (Here w) g t x y w (sg_val hm (fun _ h => h) hx) (tm_val hm (fun _ h => h) hy)
theorem all_tri : Tri Tryd.prog 20 [.d (sgDV g), .d (.sl (l.map tmDV))] (pure' (iA (allOk g l))) := tri_of2 rfl fun w m x y hm hx hy => all_any (Here w) (Here w) g l x y w (sg_val hm (fun _ h => h) hx) (tms_val hm (fun _ h => h) hy)
theorem sameR_tri : Tri Tryd.prog 18 [.d (tmDV t), .d (tmDV u)] (pure' (bA (same t u))) := tri_of2 rfl fun w m x y hm hx hy => sameR_any t (Here w) (Here w) u x y w (tm_val hm (fun _ h => h) hx) (tm_val hm (fun _ h => h) hy)
end
mutual
def bk {H : Type} : DataW H → Nat
 | .lit (.string bytes) => bytes.length + 1
 | .lit _ => 1
 | .nil => 1
 | .ptr d => bk d + 1
 | .slice elems spare => bkL elems + bkL spare + 1
 | .agg parts => bkL parts + 1
 | .iface _ d => bk d + 1
 | .map _ => 1
 | .held _ => 1
def bkL {H : Type} : List (DataW H) → Nat
 | [] => 0
 | d :: r => bk d + bkL r
end
def fullM (w : World) : Mem := fun b o => match w.cell? ⟨b, o, none⟩ with | some v => if v.oneCell' = true then some v else none | none => none
theorem fullM_of {w : World} {b o : Nat} {v : Value} (h : w.cell? ⟨b, o, none⟩ = some v) (h1 : v.oneCell' = true) : fullM w b o = some v := by
 unfold fullM; rw [h]; simp [h1]
theorem fullM_cell {w : World} {b o : Nat} {v : Value} (h : fullM w b o = some v) : w.cell? ⟨b, o, none⟩ = some v ∧ v.oneCell' = true := by
 unfold fullM at h
 split at h
 ·split at h
  ·cases h; exact ⟨by assumption, by assumption⟩
  ·cases h
 ·cases h
theorem HRel.start (P : Program) (w : GW) : HRel P w (fun _ => none) 0 (fullM w) (fun _ => none) w :=
 ⟨.refl _ _, fun _ _ _ h => fullM_cell h, fun _ _ h => (by cases h), fun _ _ _ h => (by cases h), fun _ _ h => (by cases h), fun _ _ _ _ _ _ h => (by cases h)⟩
theorem add_add (a : Addr) (i j : Nat) : (a.add i).add j = a.add (i + j) := by
 unfold Addr.add
 by_cases hi : i = 0
 ·subst hi; simp
 ·by_cases hj : j = 0
  ·subst hj; simp
  ·simp [hi, hj, Nat.add_assoc]
def Holds (w : World) (cs : List Value) (x : DV) : Prop := x.cells.length = cs.length ∧ ∀ (j : Nat) (c : Value) (y : DV), cs[j]? = some c → x.cells[j]? = some y → c.oneCell' = true ∧ RD (fullM w) c y
def ReadsN (P : Program) (n : Nat) (T : TypeId) {α : Type} (g : α → DV) (ok : α → Prop) (sz : α → Nat) : Prop :=
 ∀ {H : Type} {enc : TypeId × Value → H} {w : World} {base : Nat} {spare : Nat → Bool} {held : Bool} {cs : List Value} {d : DataW H} {ps : List MemPlace}, (∀ b, spare b = true) → DataW.trod enc P w base spare held n T cs = some (d, ps) → ∃ a, ok a ∧ sz a ≤ bk d ∧ Holds w cs (g a)
abbrev Reads (P : Program) (T : TypeId) {α : Type} (g : α → DV) (ok : α → Prop) (sz : α → Nat) : Prop := ∀ n, ReadsN P n T g ok sz
section
variable {P : Program} {T E : TypeId} {α : Type} {g : α → DV} {ok : α → Prop} {sz : α → Nat}
theorem Holds.one {w : World} {c : Value} {x y : DV} (h : x.cells = [y]) (h1 : c.oneCell' = true) (hr : RD (fullM w) c y) : Holds w [c] x := by
 refine ⟨by rw [h]; rfl, fun j c' y' hc hy => ?_⟩
 rw [h] at hy
 cases j with
 | zero => simp at hc hy; subst hc; subst hy; exact ⟨h1, hr⟩
 | succ j => simp at hc
def I64 (n : Int) : Prop := -9223372036854775808 ≤ n ∧ n ≤ 9223372036854775807
theorem reads_int (ht : P.underlying T = some (.int .i64)) : Reads P T (fun n : Int => DV.v (.int .i64 n)) I64 (fun _ => 1) := by
 intro n H enc w base spare held cs d ps _ h
 obtain ⟨x, rfl, hx, hw⟩ := DataW.trod_int ht h
 cases hx
 refine ⟨x, ?_, by simp [bk], .one rfl rfl (.v rfl)⟩
 simpa [I64, Lit.wf, IntKind.min, IntKind.max, IntKind.signed, IntKind.bits] using hw
theorem reads_string (ht : P.underlying T = some .string) : Reads P T (fun s : ByteArray => DV.v (.string s)) (fun s => s.size ≤ maxLen) (fun s => s.size + 1) := by
 intro n H enc w base spare held cs d ps _ h
 obtain ⟨x, rfl, hx, hm⟩ := DataW.trod_string ht h
 cases hx
 refine ⟨x, hm, ?_, .one rfl rfl (.v rfl)⟩
 have : x.data.toList.length = x.size := by rw [Array.length_toList]; rfl
 simp only [bk]; omega
theorem cells_spot {w : World} {base : Nat} {a : Addr} {k : Nat} {cs : List Value} (h : w.cells? base a k = some cs) : cs.length = k ∧ ∀ j c, cs[j]? = some c → w.cell? (a.add j) = some c := by
 unfold World.cells? at h
 split at h
 ·refine ⟨by simpa using mapM_some_length h, fun j c hj => ?_⟩
  have hlt : j < k := by
   have h1 := mapM_some_length h
   have h2 := (List.getElem?_eq_some_iff.1 hj).1
   simp at h1; omega
  have := mapM_some_get h j j (by simp [hlt])
  rw [this]; exact hj
 ·cases h
theorem spot_none {w : World} {a : Addr} {c : Value} (h : w.cell? a = some c) : a.spot = none := by
 unfold World.cell? at h
 split at h
 ·split at h
  ·cases h
  ·rename_i hs
   simpa using hs
 ·cases h
theorem elems_of {w : World} {H : Type} {k : Nat} {a : Addr} {el : List (DataW H × List MemPlace)} {f : List Value → Option (DataW H × List MemPlace)} (hf : ∀ cs y, f cs = some y → ∃ x, ok x ∧ sz x ≤ bk y.1 ∧ Holds w cs (g x))
  {base : Nat} : ∀ (len : Nat), el.length = len → (∀ i, i < len → (w.cells? base (a.add (i * k)) k).bind f = el[i]?) →
  ∃ l : List α, l.length = len ∧ (∀ x ∈ l, ok x) ∧ (l.map sz).sum ≤ bkL (el.map (·.1)) ∧ ∀ (i : Nat) (x : α), l[i]? = some x → (g x).cells.length = k ∧ ∀ (j : Nat) (y : DV), (g x).cells[j]? = some y → ∃ c, w.cell? (a.add (i * k + j)) = some c ∧ c.oneCell' = true ∧ RD (fullM w) c y := by
 have key : ∀ i y, el[i]? = some y → (w.cells? base (a.add (i * k)) k).bind f = el[i]? → ∃ x, ok x ∧ sz x ≤ bk y.1 ∧ (g x).cells.length = k ∧ ∀ (j : Nat) (z : DV), (g x).cells[j]? = some z → ∃ c, w.cell? (a.add (i * k + j)) = some c ∧ c.oneCell' = true ∧ RD (fullM w) c z := by
  intro i y hy hb
  rw [hy, Option.bind_eq_some_iff] at hb
  obtain ⟨cs, h1, h2⟩ := hb
  obtain ⟨x, h3, h4, h5, h6⟩ := hf cs y h2
  obtain ⟨h7, h8⟩ := cells_spot h1
  refine ⟨x, h3, h4, by omega, fun j z hz => ?_⟩
  have hlt : j < cs.length := by have := (List.getElem?_eq_some_iff.1 hz).1; omega
  have hc : cs[j]? = some cs[j] := List.getElem?_eq_getElem hlt
  have h9 := h8 j _ hc
  exact ⟨_, by rw [add_add] at h9; exact h9, h6 j _ z hc hz⟩
 intro len hlen hall
 induction el generalizing len a with
 | nil =>
  subst hlen
  exact ⟨[], rfl, by simp, by simp [bkL], fun i x hx => by simp at hx⟩
 | cons y el ih =>
  obtain ⟨len, rfl⟩ : ∃ m, len = m + 1 := ⟨el.length, by simpa using hlen.symm⟩
  obtain ⟨x, h1, h2, h3, h4⟩ := key 0 y rfl (hall 0 (Nat.succ_pos _))
  have e : ∀ i, (a.add k).add (i * k) = a.add ((i + 1) * k) := fun i => by rw [add_add, Nat.add_mul, Nat.one_mul, Nat.add_comm]
  have e' : ∀ i j, (a.add k).add (i * k + j) = a.add ((i + 1) * k + j) := fun i j => by rw [add_add, Nat.add_mul, Nat.one_mul]; congr 1; omega
  obtain ⟨l, g1, g2, g3, g4⟩ := ih (a := a.add k) (fun i z hz hb => by
   rw [e] at hb
   obtain ⟨x, q1, q2, q3, q4⟩ := key (i + 1) z (by simpa using hz) (by simpa using hb)
   refine ⟨x, q1, q2, q3, fun j z' hz' => ?_⟩
   obtain ⟨c, r1, r2⟩ := q4 j z' hz'
   refine ⟨c, ?_, r2⟩
   rw [e']; exact r1) len (by simpa using hlen) (fun i hi => by rw [e]; simpa using hall (i + 1) (by omega))
  refine ⟨x :: l, by simp [g1], ?_, by simp only [List.map_cons, List.sum_cons, bkL]; omega, fun i z hz => ?_⟩
  ·intro z hz
   rcases List.mem_cons.1 hz with rfl | hz
   ·exact h1
   ·exact g2 z hz
  ·cases i with
   | zero => simp at hz; subst hz; exact ⟨h3, by simpa using h4⟩
   | succ i =>
    obtain ⟨r1, r2⟩ := g4 i z (by simpa using hz)
    refine ⟨r1, fun j y hy => ?_⟩
    obtain ⟨c, r3, r4⟩ := r2 j y hy
    refine ⟨c, ?_, r4⟩
    rw [← e']; exact r3
theorem reads_slice {n : Nat} (ht : P.underlying T = some (.slice E)) (hE : 0 < P.cellsOf E) (h : ∀ m, m < n → ReadsN P m E g ok sz) : ReadsN P n T (fun l : List α => .sl (l.map g)) (fun l => ∀ a ∈ l, ok a) (fun l => (l.map sz).sum + 1) := by
 intro H enc w base spare held cs d ps hsp hd
 rcases DataW.trod_slice ht hd with ⟨rfl, hx⟩ | ⟨a, len, cap, elems, rest, m, rfl, rfl, hx, hb, hle, hmax, hel, hat, hrest, _⟩
 ·cases hx
  exact ⟨[], by simp, by simp [bk], .one rfl rfl .nil⟩
 ·cases hx
  obtain ⟨l, g1, g2, g3, g4⟩ := elems_of (g := g) (ok := ok) (sz := sz) (w := w) (k := P.cellsOf E) (a := a) (el := elems) (f := DataW.trod enc P w base spare held m E) (base := base) (fun cs y hy => h m (Nat.lt_succ_self _) (d := y.1) (ps := y.2) hsp hy) len hel hat
  refine ⟨l, g2, by simp only [bk]; omega, .one rfl rfl ?_⟩
  by_cases hcap : cap = 0
  ·have : len = 0 := by omega
   subst hcap; subst this
   have : l = [] := List.eq_nil_of_length_eq_zero g1
   subst this
   exact .nil
  ·have hspot : a.spot = none := by
    have key : ∀ i (y : DataW H × List MemPlace), i = 0 → (w.cells? base (a.add (i * P.cellsOf E)) (P.cellsOf E)).bind (DataW.trod enc P w base spare held m E) = some y → a.spot = none := by
     intro i y hi hy
     subst hi
     rw [Option.bind_eq_some_iff] at hy
     obtain ⟨cs, h1, _⟩ := hy
     obtain ⟨h2, h3⟩ := cells_spot h1
     have hc : cs[0]? = some (cs[0]'(by omega)) := List.getElem?_eq_getElem (by omega)
     exact spot_none (by simpa [Addr.add] using h3 0 _ hc)
    by_cases hl0 : len = 0
    ·obtain ⟨hr1, hr2⟩ := hrest (hsp _)
     have h0 := hr2 0 (by omega)
     rw [hl0] at h0
     obtain ⟨y, hy⟩ : ∃ y, rest[0]? = some y := ⟨_, List.getElem?_eq_getElem (by omega)⟩
     exact key _ y (by omega) (h0.trans hy)
    ·have h0 := hat 0 (by omega)
     obtain ⟨y, hy⟩ : ∃ y, elems[0]? = some y := ⟨_, List.getElem?_eq_getElem (by omega)⟩
     exact key _ y rfl (h0.trans hy)
   obtain ⟨ab, ao, az⟩ := a
   simp only at hspot
   subst hspot
   have hmem : ∀ (i j : Nat) (x d : DV), (l.map g)[i]? = some x → x.cells[j]? = some d → ∃ c, fullM w ab (ao + i * P.cellsOf E + j) = some c ∧ RD (fullM w) c d := by
    intro i j x d hx hd'
    rw [List.getElem?_map, Option.map_eq_some_iff] at hx
    obtain ⟨z, hz, rfl⟩ := hx
    obtain ⟨_, h2⟩ := g4 i z hz
    obtain ⟨c, h3, h4, h5⟩ := h2 j d hd'
    refine ⟨c, fullM_of ?_ h4, h5⟩
    rwa [add_none', ← Nat.add_assoc] at h3
   refine .sl (sz := P.cellsOf E) (by simp [g1]) hle hmax (fun x hx => ?_) (fun i j x d hx hd' => ?_) (fun i j x d c hx hd' hc => ?_)
   ·obtain ⟨z, hz, rfl⟩ := List.mem_map.1 hx
    obtain ⟨i, hi, rfl⟩ := List.mem_iff_getElem.1 hz
    exact (g4 i _ (List.getElem?_eq_getElem hi)).1
   ·obtain ⟨c, h1, _⟩ := hmem i j x d hx hd'; exact ⟨c, h1⟩
   ·obtain ⟨c', h1, h2⟩ := hmem i j x d hx hd'
    rw [hc] at h1; cases h1; exact h2
theorem ReadsN.map {β : Type} {n : Nat} {g' : β → DV} {ok' : β → Prop} {sz' : β → Nat} (h : ReadsN P n T g ok sz) (f : α → β) (hg : ∀ a, ok a → g' (f a) = g a ∧ ok' (f a) ∧ sz' (f a) ≤ sz a) : ReadsN P n T g' ok' sz' := by
 intro H enc w base spare held cs d ps hsp hd
 obtain ⟨a, h1, h2, h3⟩ := h hsp hd
 obtain ⟨k1, k2, k3⟩ := hg a h1
 exact ⟨f a, k2, by omega, by rw [k1]; exact h3⟩
def ReadsF (P : Program) (n : Nat) (fs : List Field) (off : Nat) {α : Type} (g : α → List DV) (ok : α → Prop) (sz : α → Nat) : Prop :=
 ∀ {H : Type} {enc : TypeId × Value → H} {w : World} {base : Nat} {spare : Nat → Bool} {held : Bool} {cs : List Value} {xs : List (DataW H × List MemPlace)}, (∀ b, spare b = true) → xs.length = fs.length →
  (∀ (i : Nat) (f : Field), fs[i]? = some f → DataW.trod enc P w base spare held n f.type ((cs.drop f.offset).take (P.cellsOf f.type)) = xs[i]?) →
  ∃ a, ok a ∧ sz a ≤ bkL (xs.map (·.1)) ∧ Holds w ((cs.drop off).take ((fs.map fun f => P.cellsOf f.type).sum)) (.st (g a))
theorem readsF_nil {n off : Nat} : ReadsF P n [] off (fun _ : Unit => []) (fun _ => True) (fun _ => 0) := by
 intro H enc w base spare held cs xs _ hl _
 exact ⟨(), trivial, Nat.zero_le _, by simp [DV.cells], fun j c y hc => by simp at hc⟩
theorem readsF_cons {n off : Nat} {f : Field} {fs : List Field} {β : Type} {gs : β → List DV} {oks : β → Prop} {szs : β → Nat} (ho : f.offset = off) (h : ReadsN P n f.type g ok sz) (hs : ReadsF P n fs (off + P.cellsOf f.type) gs oks szs) :
  ReadsF P n (f :: fs) off (fun p : α × β => (g p.1).cells ++ gs p.2) (fun p => ok p.1 ∧ oks p.2) (fun p => sz p.1 + szs p.2) := by
 intro H enc w base spare held cs xs hsp hl hf
 match xs, hl with
 | x :: xs, hl =>
  have h0 := hf 0 f rfl
  simp only [List.getElem?_cons_zero] at h0
  obtain ⟨a, h1, h2, h3, h4⟩ := h hsp (d := x.1) (ps := x.2) h0
  obtain ⟨b, k1, k2, k3, k4⟩ := hs hsp (xs := xs) (by simpa using hl) (fun i f' hi => by have := hf (i + 1) f' (by simpa using hi); simpa using this)
  rw [ho] at h3 h4
  have e : (cs.drop off).take (P.cellsOf f.type + (fs.map fun f => P.cellsOf f.type).sum) = (cs.drop off).take (P.cellsOf f.type) ++ (cs.drop (off + P.cellsOf f.type)).take ((fs.map fun f => P.cellsOf f.type).sum) := by
   rw [← List.drop_drop, ← List.take_add]
  refine ⟨(a, b), ⟨h1, k1⟩, by simp only [List.map_cons, bkL]; omega, ?_⟩
  simp only [List.map_cons, List.sum_cons, e]
  refine ⟨by simp only [DV.cells, List.length_append] at h3 k3 ⊢; omega, fun j c y hc hy => ?_⟩
  simp only [DV.cells_st] at hy k4
  by_cases hj : j < ((cs.drop off).take (P.cellsOf f.type)).length
  ·rw [List.getElem?_append_left hj] at hc
   rw [List.getElem?_append_left (by omega)] at hy
   exact h4 j c y hc hy
  ·rw [List.getElem?_append_right (by omega)] at hc
   rw [List.getElem?_append_right (by omega), h3] at hy
   exact k4 _ c y hc hy
theorem reads_struct {n : Nat} {fs : Array Field} {l : List Field} {gs : α → List DV} (ht : P.underlying T = some (.struct fs)) (hfs : fs.toList = l) (hsz : P.cellsOf T = (l.map fun f => P.cellsOf f.type).sum) (h : ∀ m, m < n → ReadsF P m l 0 gs ok sz) : ReadsN P n T (fun a => .st (gs a)) ok (fun a => sz a + 1) := by
 subst hfs
 intro H enc w base spare held cs d ps hsp hd
 obtain ⟨xs, m, rfl, hx, hl, hlen, hf⟩ := DataW.trod_struct ht hd
 cases hx
 obtain ⟨a, h1, h2, h3⟩ := h m (Nat.lt_succ_self _) hsp (xs := xs) (by simpa using hlen) (fun i f hi => hf i f (by simpa using hi))
 refine ⟨a, h1, by simp only [bk]; omega, ?_⟩
 rw [← hsz, List.drop_zero, ← hl, List.take_length] at h3
 exact h3
theorem arg_struct {w : World} {m : Mem} {β : Bl} {cs : Array Value} {x : DV} {ds : List DV} (hx : x = .st ds) (h : Holds w cs.toList x) (hm : (fullM w).le m) : R m β (.agg cs) (.d x) := by
 subst hx
 obtain ⟨h1, h2⟩ := h
 refine .d (.st (by simpa [DV.cells] using h1.symm) (fun i c hc => ?_) (fun i c d hc hd => ?_))
 ·have hlt : i < cs.size := (Array.getElem?_eq_some_iff.1 hc).1
  obtain ⟨y, hy⟩ : ∃ y, (DV.st ds).cells[i]? = some y := ⟨_, List.getElem?_eq_getElem (by simp at h1 ⊢; omega)⟩
  exact (h2 i c y (by simpa using hc) hy).1
 ·exact (h2 i c d (by simpa using hc) hd).2.mono hm
theorem arg_cell {w : World} {m : Mem} {β : Bl} {c : Value} {x : DV} (hx : x.cells = [x]) (h : Holds w [c] x) (hm : (fullM w).le m) : R m β c (.d x) :=
 .d ((h.2 0 c x rfl (by rw [hx]; rfl)).2.mono hm)
end
theorem Tri.start {P : Program} {f : FuncId} {args : List AV} {v : Value} (h : Tri P f args (pure' (.d (.v v)))) {W : GW} {cargs : Array Value} (hsz : cargs.size = args.length) (hargs : ∀ (i : Nat) (x : Value) (a : AV), cargs[i]? = some x → args[i]? = some a → R (fullM W) (fun _ => none) x a) :
  Calls P f cargs W fun e W' => e = .returned v ∧ Below W.heap.size W W' := by
 refine (h W (fun _ => none) 0 (fullM W) (fun _ => none) W cargs (HRel.start P W) (fun x hx => by cases hx) (fun x hx => by cases hx) hsz hargs).mono ?_
 rintro e W' ⟨u, m', β', rfl, _, _, _, h5, h6⟩
 cases h6 with
 | d hd => cases hd with | v _ => exact ⟨rfl, h5.ext⟩
theorem post_below {H : Type} {enc : TypeId × Value → H} {P : Program} {f : Func} {s : ChangeSpec} {apart fresh handsOn again : Bool} {W W' : World} {args : Array Value} {v : Value} {ds gs : List (DataW H)} {before pa pv : List MemPlace}
  (hW : DataW.Whole enc P f.params.toList s.vars apart W args.toList ds gs before) (hb : Below W.heap.size W W')
  (hres : ∀ (b : Nat) (sp : Nat → Bool) (hd : Bool), DataW.TrodAll enc P W' b sp hd f.resultTypes.toList (v.resultList f.resultTypes.size) (s.fn H (ds ++ gs)).results [])
  (hargs : ∀ sp : Nat → Bool, (∀ p ∈ before, sp p.block = true) → DataW.TrodAll enc P W' 0 sp true f.params.toList args.toList (s.fn H (ds ++ gs)).args pa)
  (hvars : ∀ sp : Nat → Bool, (∀ p ∈ before, sp p.block = true) → DataW.TrodVars enc P W' sp s.vars (s.fn H (ds ++ gs)).vars pv)
  (hps : before = pa ++ pv)
  (hok : ∀ (j : Nat) (t : TypeId) (r : Value), f.resultTypes[j]? = some t → (v.resultList f.resultTypes.size)[j]? = some r → Value.okWide P W' .any 0 t r) :
  s.post enc P f apart fresh handsOn again W args v W' := by
 have hlt : ∀ p ∈ before, p.block < W.heap.size := fun p hp => hW.lt p hp
 have hold : ∀ p ∈ before, (fun b => decide (b < W.heap.size)) p.block = true := fun p hp => by simpa using hlt p hp
 refine ⟨ds, gs, before, [], pa, pv, hW, hres _ _ _, hargs _ hold, hvars _ hold, hb.frame _, fun _ => ?_⟩
 obtain ⟨_, _, _, _, _, hz, hn⟩ := hW
 refine ⟨hok, _, _, ([] ++ pa) ++ pv, ⟨[] ++ pa, pv, Go.ChangeShapes.trodAll_append (hargs _ (fun _ _ => rfl)) (hres _ _ _), hvars _ (fun _ _ => rfl), rfl, ?_, ?_⟩, ?_⟩
 ·intro b off hp
  have hp' : MemPlace.cell b off ∈ before := by rw [hps]; simpa using hp
  rw [hb.frozen (p := ⟨b, off, none⟩) (hlt _ hp')]
  exact hz b off hp'
 ·intro ha
  have := hn ha
  rw [hps] at this
  simpa using this
 ·intro p hp _
  rw [hps]
  simpa using hp
theorem args_below {H : Type} {enc : TypeId × Value → H} {P : Program} (hl : laidOutB P = true) {W W' : World} (hb : Below W.heap.size W W') {sp : Nat → Bool} : ∀ {ts : List TypeId} {vs : List Value} {ds : List (DataW H)} {ps : List MemPlace},
  DataW.TrodAll enc P W 0 (fun _ => true) true ts vs ds ps → (∀ t ∈ ts, P.readableRec t = true ∧ t < P.types.size) → (∀ p ∈ ps, p.block < W.heap.size) → (∀ p ∈ ps, sp p.block = true) → DataW.TrodAll enc P W' 0 sp true ts vs ds ps
 | [], _, _, _, h, _, _, _ => by
  obtain ⟨rfl, rfl, rfl⟩ := Go.ChangeShapes.trodAll_nil h
  exact rfl
 | t :: ts, _, _, _, h, ht, h1, h2 => by
  obtain ⟨v, vs, d, ds, a, b, rfl, rfl, rfl, h3, h4⟩ := Go.ChangeShapes.trodAll_cons h
  obtain ⟨r1, r2⟩ := ht t (by simp)
  exact ⟨a, b, WideElems.Trod_stays hl r1 r2 h3 (fun x hx => hb.same (h1 x (by simp [hx]))) (fun x hx => h2 x (by simp [hx])), args_below hl hb h4 (fun t' ht' => ht t' (by simp [ht'])) (fun p hp => h1 p (by simp [hp])) (fun p hp => h2 p (by simp [hp])), rfl⟩
end Go.Proofs.YtmeekpinkfpnhabDoor
namespace Go.Proofs.YtmeekpinkfpnhabDoor
open Go.ChangeShapes Go.WideShapes Go.RowKit
def ArgOf (P : Program) (T : TypeId) {α : Type} (g : α → DV) (ok : α → Prop) (sz : α → Nat) : Prop :=
 ∀ {H : Type} {enc : TypeId × Value → H} {w : World} {v : Value} {d : DataW H} {ps : List MemPlace} {b0 : Nat}, Value.okWide P w .any b0 T v → DataW.Trod enc P w 0 (fun _ => true) true T v d ps → ∃ a, ok a ∧ sz a ≤ bk d ∧ R (fullM w) (fun _ => none) v (.d (g a))
section
variable {P : Program} {T E : TypeId} {α : Type} {g : α → DV} {ok : α → Prop} {sz : α → Nat}
theorem argOf_struct {fs : Array Field} (ht : P.underlying T = some (.struct fs)) (h : Reads P T g ok sz) (hg : ∀ a, ∃ ds, g a = .st ds) : ArgOf P T g ok sz := by
 intro H enc w v d ps b0 hval hd
 obtain ⟨cs, rfl, _⟩ := okWide_struct ht hval
 obtain ⟨n, hn⟩ := hd
 obtain ⟨a, h1, h2, h3⟩ := h n (fun _ => rfl) hn
 obtain ⟨ds, hds⟩ := hg a
 exact ⟨a, h1, h2, arg_struct hds h3 (fun _ _ _ h => h)⟩
theorem argOf_string (ht : P.underlying T = some .string) : ArgOf P T (fun s : ByteArray => DV.v (.string s)) (fun s => s.size ≤ maxLen) (fun s => s.size + 1) := by
 intro H enc w v d ps b0 hval hd
 obtain ⟨n, rfl⟩ := okWide_string ht hval
 obtain ⟨n, hn⟩ := hd
 obtain ⟨a, h1, h2, h3⟩ := reads_string ht n (fun _ => rfl) hn
 exact ⟨a, h1, h2, arg_cell rfl h3 (fun _ _ _ h => h)⟩
end
end Go.Proofs.YtmeekpinkfpnhabDoor
namespace Go.Proofs.YtmeekpinkfpnhabDoor
theorem formAll_mem {g : List Int} : ∀ {l : List Tm}, formAll g l = 0 → ∀ x ∈ l, formOne g x.v x.f x.us.length = 0
 | y :: l, h, x, hx => by
  rw [formAll] at h
  by_cases hy : formOne g y.v y.f y.us.length = 0
  ·simp [hy] at h
   rcases List.mem_cons.1 hx with rfl | hx
   ·exact hy
   ·exact formAll_mem h x hx
  ·simp [hy] at h
theorem formOne_v {g : List Int} {v f : Int} {n : Nat} (h : formOne g v f n = 0) : 0 ≤ v := by
 unfold formOne at h
 split at h
 ·split at h
  ·cases h
  ·omega
 ·omega
theorem ownL_all {g : List Int} : ∀ {l : List Tm}, ownL g l = 0 → ∀ t ∈ l, own g t = 0
 | x :: l, h, t, ht => by
  rw [ownL] at h
  by_cases hx : own g x = 0
  ·simp [hx] at h
   rcases List.mem_cons.1 ht with rfl | ht
   ·exact hx
   ·exact ownL_all h t ht
  ·simp [hx] at h
theorem allOk_own {g : List Int} {l : List Tm} (h : allOk g l = 0) : sigOk g = 0 ∧ ∀ t ∈ l, own g t = 0 := by
 unfold allOk at h
 by_cases hs : sigOk g = 0
 ·simp [hs] at h; exact ⟨hs, ownL_all h⟩
 ·simp [hs] at h
theorem own_form {g : List Int} {t : Tm} (h : own g t = 0) : form g t = 0 ∧ count t 120 ≤ 120 := by
 unfold own at h
 split at h
 ·cases h
 ·exact ⟨h, by omega⟩
theorem own_parts {g : List Int} {t : Tm} (h : own g t = 0) : (parts t).length ≤ 120 := by
 have h2 := (own_form h).2
 have := count_parts t 120 (by omega) h2
 omega
theorem own_each {g : List Int} {t : Tm} (h : own g t = 0) {u : Tm} (hu : u ∈ parts t) : formOne g u.v u.f u.us.length = 0 := formAll_mem (by rw [formAll_parts]; exact (own_form h).1) u hu
theorem own_v {g : List Int} {t : Tm} (h : own g t = 0) {u : Tm} (hu : u ∈ parts t) : 0 ≤ u.v := formOne_v (own_each h hu)
mutual
theorem size_parts : ∀ t : Tm, t.size = (parts t).length
 | .mk v f us => by rw [parts, Tm.size, List.length_append, sizes_parts us]; simp; omega
theorem sizes_parts : ∀ us : List Tm, Tm.size.sizes us = (partsL us).length
 | [] => rfl
 | x :: xs => by rw [partsL, Tm.size.sizes, List.length_append, size_parts x, sizes_parts xs]
end
theorem parts_len (t : Tm) : (parts t).length = t.size := (size_parts t).symm
theorem Tm.sizes_sum (us : List Tm) : Tm.size.sizes us = (us.map Tm.size).sum := by
 induction us with
 | nil => rfl
 | cons x xs ih => simp [Tm.size.sizes, ih]
end Go.Proofs.YtmeekpinkfpnhabDoor
namespace Go.Proofs.YtmeekpinkfpnhabDoor
open Go.ChangeShapes Go.WideShapes Go.RowKit
mutual
theorem bk_le {H : Type} : ∀ d : DataW H, bk d ≤ Rows.uptoBulk d
 | .lit l => by cases l <;> simp [Rows.uptoBulk, bk]
 | .nil => by simp [Rows.uptoBulk, bk]
 | .ptr d => by have := bk_le d; simp [Rows.uptoBulk, bk]; omega
 | .slice e s => by have := bkL_le e; have := bkL_le s; simp [Rows.uptoBulk, bk]; omega
 | .agg p => by have := bkL_le p; simp [Rows.uptoBulk, bk]; omega
 | .iface _ d => by have := bk_le d; simp [Rows.uptoBulk, bk]; omega
 | .map _ => by simp [Rows.uptoBulk, bk]
 | .held _ => by simp [Rows.uptoBulk, bk]
theorem bkL_le {H : Type} : ∀ l : List (DataW H), bkL l ≤ Rows.uptoBulkAll l
 | [] => by simp [bkL]
 | x :: xs => by have := bk_le x; have := bkL_le xs; simp [Rows.uptoBulkAll, bkL]; omega
end
theorem laid : laidOutB Tryd.prog = true := by kernel_rfl
theorem bulk {H : Type} {l : List (DataW H)} (hk : Rows.uptoSmall H l = true) : bkL l ≤ 1048576 :=
 Nat.le_trans (bkL_le l) (of_decide_eq_true hk)
set_option maxRecDepth 20000 in
theorem sig_reads : Reads Tryd.prog 24 sgDV (fun _ => True) (fun g => g.length + 1) := by
 intro n
 refine ReadsN.map (reads_struct Tryd.underlying24 rfl (by kernel_rfl) fun m hm => readsF_cons rfl (reads_slice Tryd.underlying22 (by decide +kernel) fun m' hm' => reads_int Tryd.underlying3 m') readsF_nil) (fun p => p.1) fun p _ => ⟨rfl, trivial, ?_⟩
 have : ∀ l : List Int, (l.map fun _ => 1).sum = l.length := fun l => by induction l <;> simp_all <;> omega
 simp only [this]; omega
theorem sig_arg : ArgOf Tryd.prog 24 sgDV (fun _ => True) (fun g => g.length + 1) := argOf_struct Tryd.underlying24 sig_reads fun a => ⟨_, rfl⟩
end Go.Proofs.YtmeekpinkfpnhabDoor
namespace Go.Proofs.YtmeekpinkfpnhabDoor
open Go.RowKit
section
variable {P : Program} {ops : Array Oper} {tick : Nat} {K : St → Prop}
theorem CallD.eff {s : St} {i : Nat} {dst : Option Tmp} {g : FuncId} {args : Array Operand} {ats : Array TypeId} {ty : TypeId} {pos : String} {after : Array Edge} {guard : Option (Nat × Bool)} {rest : List Oper} {acc : Acc} {az : List AV} {e : Eff} (hent : enterOk P g) (ht : Tri P g az e)
  (hco : coL (args.toList.map s.ev) az) (hrd : ∀ x ∈ e.rd, s.h x.1 = x.2) (hwr : ∀ x ∈ e.wr, s.h x.1 ≠ none ∨ x.1.1 = tick ∧ x.1.2 % 1000 = i)
  (hk : chk ops ⟨dst, .call ⟨.value (.func g), args, ats⟩, ty, pos, after, guard⟩ acc e.R_ e.W_ ∧ runD P ops tick rest (i + 1) (s.step ⟨dst, .call ⟨.value (.func g), args, ats⟩, ty, pos, after, guard⟩ e) (addF acc i e.R_ e.W_) K) :
  CallD P ops tick i ⟨dst, .call ⟨.value (.func g), args, ats⟩, ty, pos, after, guard⟩ rest s acc K :=
 ⟨e, ⟨g, [], [], az, rfl, hent, hco, by simpa using ht, hrd, hwr⟩, hk.1, runE_of _ _ _ _ hk.2⟩
theorem CallD.val {s : St} {i : Nat} {dst : Option Tmp} {f : Operand} {g : FuncId} {first caps : List AV} {args : Array Operand} {ats : Array TypeId} {ty : TypeId} {pos : String} {after : Array Edge} {guard : Option (Nat × Bool)} {rest : List Oper} {acc : Acc} {az : List AV} {e : Eff}
  (hf : s.ev f = .fn (.func g) first caps) (hent : enterOk P g) (ht : Tri P g (first ++ az ++ caps) e)
  (hco : coL (args.toList.map s.ev) az) (hrd : ∀ x ∈ e.rd, s.h x.1 = x.2) (hwr : ∀ x ∈ e.wr, s.h x.1 ≠ none ∨ x.1.1 = tick ∧ x.1.2 % 1000 = i)
  (hk : chk ops ⟨dst, .call ⟨.value f, args, ats⟩, ty, pos, after, guard⟩ acc e.R_ e.W_ ∧ runD P ops tick rest (i + 1) (s.step ⟨dst, .call ⟨.value f, args, ats⟩, ty, pos, after, guard⟩ e) (addF acc i e.R_ e.W_) K) :
  CallD P ops tick i ⟨dst, .call ⟨.value f, args, ats⟩, ty, pos, after, guard⟩ rest s acc K :=
 ⟨e, ⟨g, first, caps, az, hf, hent, hco, ht, hrd, hwr⟩, hk.1, runE_of _ _ _ _ hk.2⟩
end
def runI (c : Bool) (A B : Prop) : Prop := if c then A else B
@[go_sem] theorem runI_t (A B : Prop) : runI true A B = A := rfl
@[go_sem] theorem runI_f (A B : Prop) : runI false A B = B := rfl
section
variable {P : Program} {ops : Array Oper} {tick : Nat} {s : St} {K : St → Prop} {i : Nat} {rest : List Oper} {acc : Acc}
 {dst : Option Tmp} {op : Op} {ty : TypeId} {pos : String} {after : Array Edge} {j : Nat} {b : Bool}
@[go_sem] theorem runL_nil : runL P ops tick [] i s K = K s := rfl
@[go_sem] theorem runL_none : runL P ops tick (⟨dst, op, ty, pos, after, none⟩ :: rest) i s K = runI (isCallV op) (CallK P ops tick i ⟨dst, op, ty, pos, after, none⟩ rest s K)
  (okOf P op s.ev s.h ∧ runL P ops tick rest (i + 1) (s.step ⟨dst, op, ty, pos, after, none⟩ (effOf P (tick, i) op s.ev s.h)) K) := (Eq.trans rfl (Eq.refl _))
@[go_sem] theorem runL_t (h : gval ops s j = .d (.v (.bool b))) : runL P ops tick (⟨dst, op, ty, pos, after, some (j, b)⟩ :: rest) i s K = runI (isCallV op) (CallK P ops tick i ⟨dst, op, ty, pos, after, some (j, b)⟩ rest s K)
  (okOf P op s.ev s.h ∧ runL P ops tick rest (i + 1) (s.step ⟨dst, op, ty, pos, after, some (j, b)⟩ (effOf P (tick, i) op s.ev s.h)) K) := by
 show (guardOk (gval ops s j) ∧ if guardB b (gval ops s j) = true then _ else _) = _
 rw [h]; simp [guardOk, isBool, guardB, runI]
@[go_sem] theorem runL_f (h : gval ops s j = .d (.v (.bool !b))) : runL P ops tick (⟨dst, op, ty, pos, after, some (j, b)⟩ :: rest) i s K = runL P ops tick rest (i + 1) (s.step ⟨dst, op, ty, pos, after, some (j, b)⟩ nop) K := by
 show (guardOk (gval ops s j) ∧ if guardB b (gval ops s j) = true then _ else _) = _
 rw [h]; cases b <;> simp [guardOk, isBool, guardB]
@[go_sem] theorem runL_u (h : gval ops s j = .un) : runL P ops tick (⟨dst, op, ty, pos, after, some (j, b)⟩ :: rest) i s K = runL P ops tick rest (i + 1) (s.step ⟨dst, op, ty, pos, after, some (j, b)⟩ nop) K := by
 show (guardOk (gval ops s j) ∧ if guardB b (gval ops s j) = true then _ else _) = _
 rw [h]; simp [guardOk, guardB]
@[go_sem] theorem runD_nil : runD P ops tick [] i s acc K = K s := rfl
@[go_sem] theorem runD_none : runD P ops tick (⟨dst, op, ty, pos, after, none⟩ :: rest) i s acc K = runI (isCallV op) (CallD P ops tick i ⟨dst, op, ty, pos, after, none⟩ rest s acc K)
  (okOf P op s.ev s.h ∧ chk ops ⟨dst, op, ty, pos, after, none⟩ acc (effOf P (tick, i) op s.ev s.h).R_ (effOf P (tick, i) op s.ev s.h).W_ ∧
   runD P ops tick rest (i + 1) (s.step ⟨dst, op, ty, pos, after, none⟩ (effOf P (tick, i) op s.ev s.h)) (addF acc i (effOf P (tick, i) op s.ev s.h).R_ (effOf P (tick, i) op s.ev s.h).W_) K) := (Eq.trans rfl (Eq.refl _))
@[go_sem] theorem runD_t (h : gval ops s j = .d (.v (.bool b))) : runD P ops tick (⟨dst, op, ty, pos, after, some (j, b)⟩ :: rest) i s acc K = runI (isCallV op) (CallD P ops tick i ⟨dst, op, ty, pos, after, some (j, b)⟩ rest s acc K)
  (okOf P op s.ev s.h ∧ chk ops ⟨dst, op, ty, pos, after, some (j, b)⟩ acc (effOf P (tick, i) op s.ev s.h).R_ (effOf P (tick, i) op s.ev s.h).W_ ∧
   runD P ops tick rest (i + 1) (s.step ⟨dst, op, ty, pos, after, some (j, b)⟩ (effOf P (tick, i) op s.ev s.h)) (addF acc i (effOf P (tick, i) op s.ev s.h).R_ (effOf P (tick, i) op s.ev s.h).W_) K) := by
 show (guardOk (gval ops s j) ∧ if guardB b (gval ops s j) = true then _ else _) = _
 rw [h]; simp [guardOk, isBool, guardB, runI]
@[go_sem] theorem runD_f (h : gval ops s j = .d (.v (.bool !b))) : runD P ops tick (⟨dst, op, ty, pos, after, some (j, b)⟩ :: rest) i s acc K = runD P ops tick rest (i + 1) (s.step ⟨dst, op, ty, pos, after, some (j, b)⟩ nop) acc K := by
 show (guardOk (gval ops s j) ∧ if guardB b (gval ops s j) = true then _ else _) = _
 rw [h]; cases b <;> simp [guardOk, isBool, guardB]
@[go_sem] theorem runD_u (h : gval ops s j = .un) : runD P ops tick (⟨dst, op, ty, pos, after, some (j, b)⟩ :: rest) i s acc K = runD P ops tick rest (i + 1) (s.step ⟨dst, op, ty, pos, after, some (j, b)⟩ nop) acc K := by
 show (guardOk (gval ops s j) ∧ if guardB b (gval ops s j) = true then _ else _) = _
 rw [h]; simp [guardOk, guardB]
end
attribute [go_sem] ite_self List.any_nil List.any_cons Region.binds Bool.or_false Bool.false_or Bool.true_or Bool.or_true Bool.and_true Bool.true_and Bool.and_false Bool.false_and
attribute [go_sem] chk addF Eff.R_ Eff.W_ edgeB edge2 Far isCallV okOf effOf St.step St.ev constAV constC Eff.ap List.foldl_cons List.foldl_nil slotsOf List.getD_cons_zero List.getD_cons_succ pure' List.map_cons List.map_nil
attribute [go_sem] Bool.false_eq_true if_false if_true reduceIte reduceCtorEq Nat.reduceEqDiff and_true true_and and_self stOK isInt isBool isVal isI64 valOf intOf' boolOf' addTo isPlace Option.getD_some Option.getD_none gval gslot List.getElem?_toArray List.getElem?_cons_zero List.getElem?_cons_succ Option.bind_some
attribute [go_sem] Nat.reduceAdd Nat.zero_add Nat.add_zero objCells objTy isCells effLoad okLoad effStore okStore setR effIndexAddr okIndexAddr listOf isList binV okBin inK unV okUn okLen lenA effBuiltin okBuiltin effAppend srcRd okAppend okSrc okDest newsOf effBuildSlice okBuildSlice effSlice okSlice effMakeSlice okMakeSlice fillA okFill placeT nilCmp isNilA
attribute [go_sem] Option.some.injEq exists_eq_left' exists_eq_left List.drop_succ_cons List.drop_zero List.take_succ_cons List.take_zero List.length_cons List.length_nil Nat.reduceLeDiff Option.map_some Option.map_none Nat.lt_add_one Nat.reduceMul List.set_cons_zero List.set_cons_succ List.append_assoc List.nil_append List.append_nil List.cons_append
attribute [go_sem] isStruct Prod.mk.injEq ne_eq not_false_eq_true Bool.not_true Bool.not_false forall_const false_implies implies_true Nat.le_refl Option.isSome_some decide_eq_true_eq decide_eq_false_iff_not nop not_true_eq_false decide_true decide_false true_implies List.toList_toArray List.length_map AV.toD AV.toD? List.mem_cons List.not_mem_nil or_false forall_eq forall_eq_or_imp false_or List.range_succ List.range_zero
attribute [go_sem] nilI isNilI convA
attribute [go_sem] ownEff newEff Nat.reduceMod Nat.reduceLT true_or or_true
theorem nat_ne (n : Nat) : ((n = n + 1) = False) ∧ ((n = n + 1 + 1) = False) ∧ ((n = n + 1 + 1 + 1) = False) ∧ ((n = n + 1 + 1 + 1 + 1) = False) ∧ ((n = n + 1 + 1 + 1 + 1 + 1) = False) ∧ ((n = n + 1 + 1 + 1 + 1 + 1 + 1) = False) ∧ ((n = n + 1 + 1 + 1 + 1 + 1 + 1 + 1) = False) ∧
  ((n + 1 = n) = False) ∧ ((n + 1 + 1 = n) = False) ∧ ((n + 1 + 1 + 1 = n) = False) ∧ ((n + 1 + 1 + 1 + 1 = n) = False) ∧ ((n + 1 + 1 + 1 + 1 + 1 = n) = False) ∧ ((n + 1 + 1 + 1 + 1 + 1 + 1 = n) = False) ∧ ((n + 1 + 1 + 1 + 1 + 1 + 1 + 1 = n) = False) := by
 and_intros <;> (apply eq_false; omega)
theorem ltne {a b : Nat} (h : a < b) : ((a = b) = False) ∧ ((a = b + 1) = False) ∧ ((a = b + 1 + 1) = False) ∧ ((a = b + 1 + 1 + 1) = False) ∧ ((a = b + 1 + 1 + 1 + 1) = False) ∧ ((a = b + 1 + 1 + 1 + 1 + 1) = False) ∧ ((a = b + 1 + 1 + 1 + 1 + 1 + 1) = False) ∧ ((a = b + 1 + 1 + 1 + 1 + 1 + 1 + 1) = False) ∧
  ((b = a) = False) ∧ ((b + 1 = a) = False) ∧ ((b + 1 + 1 = a) = False) ∧ ((b + 1 + 1 + 1 = a) = False) ∧ ((b + 1 + 1 + 1 + 1 = a) = False) ∧ ((b + 1 + 1 + 1 + 1 + 1 = a) = False) ∧ ((b + 1 + 1 + 1 + 1 + 1 + 1 = a) = False) ∧ ((b + 1 + 1 + 1 + 1 + 1 + 1 + 1 = a) = False) := by
 and_intros <;> (apply eq_false; omega)
theorem nmne {n : Nm} {b : Nat} (h : n.1 < b) : (∀ j, (n = (b, j)) = False) ∧ (∀ j, (n = (b + 1, j)) = False) ∧ (∀ j, (n = (b + 1 + 1, j)) = False) ∧ (∀ j, (n = (b + 1 + 1 + 1, j)) = False) ∧ (∀ j, (n = (b + 1 + 1 + 1 + 1, j)) = False) ∧ (∀ j, (n = (b + 1 + 1 + 1 + 1 + 1, j)) = False) ∧ (∀ j, (n = (b + 1 + 1 + 1 + 1 + 1 + 1, j)) = False) ∧
  (∀ j, ((b, j) = n) = False) ∧ (∀ j, ((b + 1, j) = n) = False) ∧ (∀ j, ((b + 1 + 1, j) = n) = False) ∧ (∀ j, ((b + 1 + 1 + 1, j) = n) = False) ∧ (∀ j, ((b + 1 + 1 + 1 + 1, j) = n) = False) ∧ (∀ j, ((b + 1 + 1 + 1 + 1 + 1, j) = n) = False) ∧ (∀ j, ((b + 1 + 1 + 1 + 1 + 1 + 1, j) = n) = False) := by
 and_intros <;> (intro j; apply eq_false; intro e; first | (rw [e] at h; simp only at h; omega) | (rw [← e] at h; simp only at h; omega))
attribute [go_sem] nat_ne
theorem map_sz {α : Type} {g : α → DV} {n : Nat} {l : List α} (h : ∀ a, (g a).cells.length = n) : ∀ y ∈ l.map g, y.cells.length = n := fun y hy => by
 obtain ⟨a, _, rfl⟩ := List.mem_map.1 hy
 exact h a
theorem co_i {k : Nat} {a b : Int} (h : a = b) : Co k none (iA a) (iA b) := by rw [h]; exact .dat rfl
theorem co_b {k : Nat} {a b : Bool} (h : a = b) : Co k none (bA a) (bA b) := by rw [h]; exact .dat rfl
def rdE (ro : List (Nm × Ob)) (v : AV) : Eff := ⟨v, ro.map fun x => (x.1, some x.2), []⟩
def stE (N : List Nm) (O O' : Nm → Ob) (v : AV) : Eff := ⟨v, N.map fun n => (n, some (O n)), N.map fun n => (n, some (O' n))⟩
theorem fold_upd (N : List Nm) (O : Nm → Ob) : ∀ (h : Heap) (x : Nm), (N.map fun n => (n, some (O n))).foldl (fun h x => upd h x.1 x.2) h x = if x ∈ N then some (O x) else h x := by
 induction N with
 | nil => intro h x; rfl
 | cons n N ih =>
  intro h x
  simp only [List.map_cons, List.foldl_cons, ih, List.mem_cons]
  by_cases h1 : x ∈ N
  ·simp [h1]
  ·by_cases h2 : x = n
   ·subst h2; simp [h1, upd]
   ·simp [h1, h2, upd]
theorem stE_ap (N : List Nm) (O O' : Nm → Ob) (v : AV) (h : Heap) (x : Nm) : (stE N O O' v).ap h x = if x ∈ N then some (O' x) else h x := fold_upd N O' h x
def stH (N : List Nm) (O : Nm → Ob) (h : Heap) : Heap := fun x => if x ∈ N then some (O x) else h x
@[go_sem] theorem stH_get (N : List Nm) (O : Nm → Ob) (h : Heap) (x : Nm) : stH N O h x = if x ∈ N then some (O x) else h x := (Eq.trans rfl (Eq.refl _))
theorem stE_apH (N : List Nm) (O O' : Nm → Ob) (v : AV) (h : Heap) : (stE N O O' v).ap h = stH N O' h := funext fun x => stE_ap N O O' v h x
structure Ag (k : Nat) (N : List Nm) (O : Nm → Ob) (h : Heap) : Prop where
 get : ∀ n ∈ N, n.1 < k ∧ h n = some (O n)
def FrN (k : Nat) (N : List Nm) (h0 h : Heap) : Prop := ∀ x : Nm, x.1 < k → x ∉ N → h x = h0 x
theorem FrN.rfl' (k : Nat) (N : List Nm) (h : Heap) : FrN k N h h := fun _ _ _ => rfl
theorem FrN.updk {k : Nat} {N : List Nm} {h0 h : Heap} (hf : FrN k N h0 h) {k' i : Nat} (hn : k ≤ k') (o : Option Ob) : FrN k N h0 (upd h (k', i) o) := fun x hx hxn => by
 rw [upd_ne _ _ (fun e => by subst e; simp only at hx; omega)]; exact hf x hx hxn
theorem FrN.updn {k : Nat} {N : List Nm} {h0 h : Heap} (hf : FrN k N h0 h) {n : Nm} (hn : n ∈ N) (o : Option Ob) : FrN k N h0 (upd h n o) := fun x hx hxn => by
 rw [upd_ne _ _ (fun e => by subst e; exact hxn hn)]; exact hf x hx hxn
theorem FrN.stH {k : Nat} {N : List Nm} {h0 h : Heap} (hf : FrN k N h0 h) (O : Nm → Ob) : FrN k N h0 (stH N O h) := fun x hx hxn => by
 rw [stH_get, if_neg hxn]; exact hf x hx hxn
theorem Fr.stH {k : Nat} {N : List Nm} {h0 h : Heap} (hf : Fr k h0 h) (O : Nm → Ob) (hN : ∀ n ∈ N, k ≤ n.1) : Fr k h0 (stH N O h) := fun x hx => by
 rw [stH_get, if_neg (fun h => by have := hN x h; omega)]; exact hf x hx
theorem Ag.updk {k : Nat} {N : List Nm} {O : Nm → Ob} {h : Heap} (ha : Ag k N O h) {k' i : Nat} (hn : k ≤ k') (o : Option Ob) : Ag k N O (upd h (k', i) o) := ⟨fun n hnN =>
 ⟨(ha.get n hnN).1, by rw [upd_ne _ _ (fun e => by have := (ha.get n hnN).1; subst e; simp only at this; omega)]; exact (ha.get n hnN).2⟩⟩
theorem Ag.stN {k : Nat} {N : List Nm} (hN : ∀ n ∈ N, n.1 < k) (O' : Nm → Ob) (h : Heap) : Ag k N O' (Go.Proofs.YtmeekpinkfpnhabDoor.stH N O' h) := ⟨fun n hn => ⟨hN n hn, by rw [stH_get, if_pos hn]⟩⟩
theorem Ag.fr {k : Nat} {N : List Nm} {O : Nm → Ob} {h h' : Heap} (ha : Ag k N O h) (hf : Fr k h h') : Ag k N O h' := ⟨fun n hn => ⟨(ha.get n hn).1, (hf n (ha.get n hn).1).trans (ha.get n hn).2⟩⟩
theorem Ag.rd {k : Nat} {N : List Nm} {O O' : Nm → Ob} {h : Heap} {v : AV} (ha : Ag k N O h) : ∀ x ∈ (stE N O O' v).rd, h x.1 = x.2 := fun x hx => by
 obtain ⟨y, hy, rfl⟩ := List.mem_map.1 hx
 exact (ha.get y hy).2
theorem Ag.wr {k : Nat} {N : List Nm} {O O' : Nm → Ob} {h : Heap} {v : AV} {tick i : Nat} (ha : Ag k N O h) : ∀ x ∈ (stE N O O' v).wr, h x.1 ≠ none ∨ x.1.1 = tick ∧ x.1.2 % 1000 = i := fun x hx => by
 obtain ⟨y, hy, rfl⟩ := List.mem_map.1 hx
 exact .inl (by rw [(ha.get y hy).2]; simp)
section
variable {P : Program} {w0 : GW} {n : Nat} {Q : Exit → St → Prop} {s : St}
theorem tri_enter_st {f : FuncId} {fn : Func} {c : Code} {args : List AV} {N : List Nm} {O O' : Nm → Ob} {v : AV} {n : Nat} (hf : P.funcs[f]? = some fn) (hb : fn.body = some c) (hnt : fn.ntmps = n) (hlen : args.length ≤ n)
  (h : ∀ (w0 : GW) (h0 : Heap) (k : Nat), Ag k N O h0 → awp P w0 n c (retQ P fn (stE N O O' v) h0 k) ⟨slotsOf args, h0, k⟩) : Tri P f args (stE N O O' v) := by
 refine tri_enter hf hb hnt hlen fun w0 h0 k hrd hwr => h w0 h0 k ⟨fun x hx => ⟨?_, hrd (x, some (O x)) (List.mem_map.2 ⟨x, hx, rfl⟩)⟩⟩
 exact hwr (x, some (O' x)) (List.mem_map.2 ⟨x, hx, rfl⟩)
theorem ret_ro {fn : Func} {ro : List (Nm × Ob)} {v : AV} {h0 : Heap} {k : Nat} {s : St} (h1 : resOkL P fn.ntmps s fn.results.toList) (h2 : Co k none (resA P s fn.results.toList) v) (h3 : Fr k h0 s.h) : RetOK P fn (rdE ro v) h0 k s :=
 ⟨h1, none, h2, fun x hx _ => h3 x hx, fun y hy => (by cases hy), fun x hx => (by cases hx)⟩
def Cl (k : Nat) (N : List Nm) (O : Nm → Ob) : Prop := ∀ n ∈ N, ∀ x ∈ (O n).names, x.1 < k
theorem ret_st {fn : Func} {N : List Nm} {O O' : Nm → Ob} {v : AV} {h0 : Heap} {k : Nat} {s : St} (h1 : resOkL P fn.ntmps s fn.results.toList) (h2 : Co k none (resA P s fn.results.toList) v) (ha : Ag k N O' s.h) (hf : FrN k N h0 s.h) (hc : Cl k N O') : RetOK P fn (stE N O O' v) h0 k s := by
 refine ⟨h1, none, h2, fun x hx _ => ?_, fun y hy => (by cases hy), fun x hx ob ho y hy => ?_⟩
 ·rw [stE_ap]
  by_cases hN : x ∈ N
  ·rw [if_pos hN]; exact (ha.get x hN).2
  ·rw [if_neg hN]; exact hf x hx hN
 ·obtain ⟨z, hz, rfl⟩ := List.mem_map.1 hx
  cases ho
  exact hc z hz y hy
section
variable {ops : Array Oper} {rest : List Oper} {K : St → Prop} {tick i : Nat} {dst : Option Tmp} {f : Operand} {g : FuncId} {first caps : List AV} {args : Array Operand} {ats : Array TypeId} {ty : TypeId} {pos : String} {after : Array Edge} {guard : Option (Nat × Bool)} {az : List AV} {ro : List (Nm × Ob)} {v : AV} {k : Nat} {h0 : Heap}
variable {N : List Nm} {O O' : Nm → Ob}
theorem CallK.chg (hent : enterOk P g) (ht : Tri P g az (stE N O O' v)) (hco : coL (args.toList.map s.ev) az) (ha : Ag k N O h0) (hfr : Fr k h0 s.h)
  (hk : runL P ops tick rest (i + 1) ⟨match dst with | some d => set s.t d v | none => s.t, stH N O' s.h, s.k⟩ K) : CallK P ops tick i ⟨dst, .call ⟨.value (.func g), args, ats⟩, ty, pos, after, guard⟩ rest s K :=
 ⟨stE N O O' v, ⟨g, [], [], az, rfl, hent, hco, by simpa using ht, (ha.fr hfr).rd, (ha.fr hfr).wr⟩, runF_of _ _ _ (by unfold St.step; rw [stE_apH]; exact hk)⟩
theorem CallK.vchg (hf : s.ev f = .fn (.func g) first caps) (hent : enterOk P g) (ht : Tri P g (first ++ az ++ caps) (stE N O O' v)) (hco : coL (args.toList.map s.ev) az) (ha : Ag k N O h0) (hfr : Fr k h0 s.h)
  (hk : runL P ops tick rest (i + 1) ⟨match dst with | some d => set s.t d v | none => s.t, stH N O' s.h, s.k⟩ K) : CallK P ops tick i ⟨dst, .call ⟨.value f, args, ats⟩, ty, pos, after, guard⟩ rest s K :=
 ⟨stE N O O' v, ⟨g, first, caps, az, hf, hent, hco, ht, (ha.fr hfr).rd, (ha.fr hfr).wr⟩, runF_of _ _ _ (by unfold St.step; rw [stE_apH]; exact hk)⟩
end
end
end Go.Proofs.YtmeekpinkfpnhabDoor
namespace Go.Proofs.YtmeekpinkfpnhabDoor
structure Lt where
 y : Bool
 a : Tm
 b : Tm
def litL (g : List Int) : List Lt → Int
 | [] => 0
 | l :: c => if own g l.a ≠ 0 then own g l.a else if own g l.b ≠ 0 then own g l.b else litL g c
def clOk (g : List Int) (c : List Lt) : Int := if c.length > 8 then 2 else litL g c
theorem litL_all {g : List Int} : ∀ {c : List Lt}, litL g c = 0 → ∀ l ∈ c, own g l.a = 0 ∧ own g l.b = 0
 | x :: c, h, l, hl => by
  rw [litL] at h
  by_cases h1 : own g x.a = 0
  ·by_cases h2 : own g x.b = 0
   ·simp [h1, h2] at h
    rcases List.mem_cons.1 hl with rfl | hl
    ·exact ⟨h1, h2⟩
    ·exact litL_all h l hl
   ·simp [h1, h2] at h
  ·simp [h1] at h
theorem clOk_all {g : List Int} {c : List Lt} (h : clOk g c = 0) : c.length ≤ 8 ∧ ∀ l ∈ c, own g l.a = 0 ∧ own g l.b = 0 := by
 unfold clOk at h
 split at h
 ·cases h
 ·exact ⟨by omega, litL_all h⟩
end Go.Proofs.YtmeekpinkfpnhabDoor
namespace Go.Proofs.YtmeekpinkfpnhabDoor
open Go.RowKit
section
variable {P : Program} {ops : Array Oper} {tick : Nat} {K : St → Prop} {s : St} {i : Nat} {dst : Option Tmp} {f : Operand} {g : FuncId} {first caps : List AV} {args : Array Operand} {ats : Array TypeId} {ty : TypeId} {pos : String} {after : Array Edge} {guard : Option (Nat × Bool)} {rest : List Oper} {acc : Acc} {az : List AV}
variable {N : List Nm} {O O' : Nm → Ob} {v : AV} {k : Nat} {h0 : Heap}
theorem addF_ne {acc : Acc} {i : Nat} {N : List Nm} (h : N ≠ []) : addF acc i N N = (i, N, N) :: acc := by
 cases N with
 | nil => exact absurd rfl h
 | cons => rfl
theorem stE_RW (N : List Nm) (O O' : Nm → Ob) (v : AV) : (stE N O O' v).R_ = N ∧ (stE N O O' v).W_ = N := by
 constructor <;> simp only [stE, Eff.R_, Eff.W_, List.map_map] <;> exact List.map_id' N
theorem CallD.chg (hent : enterOk P g) (ht : Tri P g az (stE N O O' v)) (hco : coL (args.toList.map s.ev) az) (ha : Ag k N O h0) (hfr : Fr k h0 s.h) (hne : N ≠ [])
  (hk : chk ops ⟨dst, .call ⟨.value (.func g), args, ats⟩, ty, pos, after, guard⟩ acc N N ∧ runD P ops tick rest (i + 1) ⟨match dst with | some d => set s.t d v | none => s.t, stH N O' s.h, s.k⟩ ((i, N, N) :: acc) K) :
  CallD P ops tick i ⟨dst, .call ⟨.value (.func g), args, ats⟩, ty, pos, after, guard⟩ rest s acc K := by
 obtain ⟨e1, e2⟩ := stE_RW N O O' v
 refine CallD.eff hent ht hco (ha.fr hfr).rd (ha.fr hfr).wr ?_
 rw [e1, e2]
 unfold St.step
 rw [stE_apH, addF_ne hne]
 exact hk
theorem CallD.vchg (hf : s.ev f = .fn (.func g) first caps) (hent : enterOk P g) (ht : Tri P g (first ++ az ++ caps) (stE N O O' v)) (hco : coL (args.toList.map s.ev) az) (ha : Ag k N O h0) (hfr : Fr k h0 s.h) (hne : N ≠ [])
  (hk : chk ops ⟨dst, .call ⟨.value f, args, ats⟩, ty, pos, after, guard⟩ acc N N ∧ runD P ops tick rest (i + 1) ⟨match dst with | some d => set s.t d v | none => s.t, stH N O' s.h, s.k⟩ ((i, N, N) :: acc) K) :
  CallD P ops tick i ⟨dst, .call ⟨.value f, args, ats⟩, ty, pos, after, guard⟩ rest s acc K := by
 obtain ⟨e1, e2⟩ := stE_RW N O O' v
 refine CallD.val hf hent ht hco (ha.fr hfr).rd (ha.fr hfr).wr ?_
 rw [e1, e2]
 unfold St.step
 rw [stE_apH, addF_ne hne]
 exact hk
variable {ro : List (Nm × Ob)}
end
def ltDV (l : Lt) : DV := .st [bD l.y, iD l.a.v, iD l.a.f, .sl (l.a.us.map tmDV), iD l.b.v, iD l.b.f, .sl (l.b.us.map tmDV)]
@[go_sem] theorem ltDV_cells (l : Lt) : (ltDV l).cells = [bD l.y, iD l.a.v, iD l.a.f, .sl (l.a.us.map tmDV), iD l.b.v, iD l.b.f, .sl (l.b.us.map tmDV)] := (Eq.trans rfl (Eq.refl _))
@[go_sem] theorem ltDV_fold (l : Lt) : DV.st [bD l.y, iD l.a.v, iD l.a.f, .sl (l.a.us.map tmDV), iD l.b.v, iD l.b.f, .sl (l.b.us.map tmDV)] = ltDV l := (Eq.trans rfl (Eq.refl _))
abbrev clDV (c : List Lt) : DV := .sl (c.map ltDV)
end Go.Proofs.YtmeekpinkfpnhabDoor

/- Walk of package order: one. The tables that comparer fills hold the order. Lists of things that the call itself makes, whatever the things are. Walk of package order: parts. A law for a region that draws its order: first operations that only read, or call what only makes memory and answers one value, or make something new; behind all of them the rest, one after the other. Walk of package order: Above. The numbers of the arguments of all parts. Lists of one's own: a place is written, another list is appended. -/
import Derived.Test.YtmeekpinkfpnhaaB04
import Derived.Deep.Cut
import Derived.Deep.CutRange
set_option linter.unusedSimpArgs false
set_option linter.unusedSectionVars false
set_option linter.unusedVariables false
set_option linter.unnecessarySimpa false
set_option linter.all false
namespace Go.Proofs.Ytmeekpinkfpnhaa
open Go.RowKit

/-- Four cells that hold a part: a term, and numbers. -/
def PtC (w : World) (S : Nat → Prop) (p : Tm × List Int) (ad : Addr) : Prop := TmC w S p.1 ad ∧ ∃ a cap, w.cell? (ad.add 3) = some (.slice a p.2.length cap) ∧ p.2.length ≤ cap ∧ cap ≤ maxLen ∧ SlI w S p.2 a
abbrev SlP (w : World) (S : Nat → Prop) (ps : List (Tm × List Int)) (a : Option Addr) : Prop := Sl w S 4 (PtC w S) ps a
theorem SlP.ext {w w' : World} {S : Nat → Prop} {ps : List (Tm × List Int)} {a : Option Addr} (h : SlP w S ps a) (hx : Ext w w') : SlP w' S ps a :=
  Sl.mono h (fun _ h _ => h) hx.size fun _ _ _ hs hb ⟨h1, a, cap, h2, h3⟩ => ⟨TmC.keep (.ext hx) (fun _ h _ => h) _ _ hs hb h1, a, cap, hx.some_ h2, h3.1, h3.2.1, h3.2.2.ext hx⟩
theorem SlP.readAt {w : World} {S : Nat → Prop} {ps : List (Tm × List Int)} {b o : Nat} (h : SlP w S ps (some ⟨b, o, none⟩)) {i : Nat} (hi : i < ps.length) :
    w.cell? ⟨b, o + i * 4, none⟩ = some (.int .i64 ps[i].1.v) ∧ w.cell? ⟨b, o + i * 4 + 1, none⟩ = some (.int .i64 ps[i].1.f) ∧
      (∃ a cap, w.cell? ⟨b, o + i * 4 + 2, none⟩ = some (.slice a ps[i].1.us.length cap)) ∧ ∃ a cap, w.cell? ⟨b, o + i * 4 + 3, none⟩ = some (.slice a ps[i].2.length cap) ∧ ps[i].2.length ≤ cap ∧ cap ≤ maxLen ∧ SlI w S ps[i].2 a := by
  obtain ⟨_, h2, h3, h4⟩ := h.at_ hi
  obtain ⟨c1, c2, a1, cap1, c3, _⟩ := h3.read
  rw [add_none] at h4
  exact ⟨c1, c2, ⟨a1, cap1, c3⟩, h4⟩

/-- What a new variable is. -/
def newVar (cs : Array Value) (t : TypeId) (v : Value) (lo hi : Nat) (w : World) : Prop := v = .pointer (some ⟨lo, 0, none⟩) ∧ w.heap[lo]? = some (.cells cs t) ∧ lo < hi
theorem newVar_ext {cs : Array Value} {t : TypeId} {v : Value} {lo hi : Nat} {w w' : World} (h : newVar cs t v lo hi w) (hx : Ext w w') : newVar cs t v lo hi w' := by
  obtain ⟨h1, h2, h3⟩ := h
  have hl : lo < w.heap.size := (Array.getElem?_eq_some_iff.1 h2).1
  exact ⟨h1, (hx.block lo hl).trans h2, h3⟩

/-- Nothing is met but the blocks of X. -/
structure Upd (X : Nat → Prop) (w w' : World) : Prop where
  os : w'.os = w.os
  tape : w'.tape = w.tape
  output : w'.output = w.output
  size : w.heap.size ≤ w'.heap.size
  block : ∀ k, k < w.heap.size → ¬ X k → w'.heap[k]? = w.heap[k]?
theorem Upd.of_ext {X : Nat → Prop} {w w' : World} (h : Ext w w') : Upd X w w' := ⟨h.os, h.tape, h.output, h.size, fun k hk _ => h.block k hk⟩
theorem Upd.of_grown {X : Nat → Prop} {w w' : World} {b : Nat} (h : w.grownBy w' (some b)) (hb : X b) : Upd X w w' :=
  ⟨h.os, h.tape, h.output, h.size, fun k hk hX => h.block k hk fun e => hX (by cases e; exact hb)⟩
theorem Upd.trans {X : Nat → Prop} {a b c : World} (h : Upd X a b) (k : Upd X b c) : Upd X a c :=
  ⟨k.os.trans h.os, k.tape.trans h.tape, k.output.trans h.output, Nat.le_trans h.size k.size, fun i hi hX => by rw [k.block i (Nat.lt_of_lt_of_le hi h.size) hX, h.block i hi hX]⟩
theorem Upd.some_ {X : Nat → Prop} {w w' : World} (h : Upd X w w') {p : Addr} {v : Value} (hp : ¬ X p.block) (hc : w.cell? p = some v) : w'.cell? p = some v :=
  (World.cell?_of_block (h.block _ (cell_lt hc) hp)).trans hc
theorem Upd.below {X : Nat → Prop} {w w' : World} {B : Nat} (h : Upd X w w') (hB : B ≤ w.heap.size) (hX : ∀ k, X k → B ≤ k) : Below B w w' :=
  ⟨h.os, h.tape, h.output, h.size, fun k hk => h.block k (by omega) fun hx => by have := hX k hx; omega⟩
theorem MapF.upd {X : Nat → Prop} {w w' : World} {b : Nat} {f : Int × Int → Bool} (h : MapF w b f) (hu : Upd X w w') (hb : ¬ X b) : MapF w' b f := by
  obtain ⟨m, h1, h2⟩ := h
  have hl := h1.lt
  obtain ⟨es, clock, h3, h4⟩ := h1
  exact ⟨m, ⟨es, clock, (hu.block b hl hb).trans h3, h4⟩, h2⟩
theorem MapF.no_cell {w : World} {b : Nat} {f : Int × Int → Bool} (h : MapF w b f) {p : Addr} {v : Value} (hc : w.cell? p = some v) : p.block ≠ b := by
  obtain ⟨m, ⟨es, clock, h3, h4⟩, h2⟩ := h
  intro e
  rw [World.cell?, e, h3] at hc
  cases hc
/-- The map with one answer more. -/
def setF (f : Int × Int → Bool) (k : Int × Int) (x : Bool) : Int × Int → Bool := fun j => if j = k then x else f j
theorem MapF.put {w' : World} {b : Nat} {f : Int × Int → Bool} {m : List ((Int × Int) × Value)} (hm : ∀ k, (getAt k m).getD (.bool false) = .bool (f k)) {k : Int × Int} {x : Bool} (h : MapV pk w' b (putAt k (.bool x) m)) : MapF w' b (setF f k x) :=
  ⟨_, h, fun j => by
    rw [getAt_put]
    unfold setF
    by_cases hj : j = k
    · simp [hj]
    · simp [hj, hm j]⟩

theorem equalI_no' (xs ys : List Int) (hlen : xs.length ≠ ys.length) (a a' : Option Addr) (cap cap' : Nat) (fv : Value) (w : World) :
    Calls Try.prog 133 #[.slice a xs.length cap, .slice a' ys.length cap', fv] w fun e w' => e = .returned (.bool false) ∧ Ext w w' :=
  (equalI_no xs ys hlen a a' cap cap' fv w).mono fun _ _ ⟨h1, h2⟩ => ⟨h1, by rw [h2]; exact Ext.rfl' _⟩

/-- Are two parts the same, by what is known of their arguments? -/
def eqV (f : Int × Int → Bool) (p q : Tm × List Int) : Bool := p.1.v == q.1.v && p.1.f == q.1.f && (p.2.length == q.2.length && (p.2.zip q.2).all f)
def grP (f h : Int × Int → Bool) (p q : Tm × List Int) (i k : Int) : Bool := grV f h p.1.v p.1.f p.2 q.1.v q.1.f q.2 i k

set_option maxRecDepth 100000 in
set_option maxHeartbeats 2000000 in
theorem one_any (S S' : Nat → Prop) (ps pt : List (Tm × List Int)) (i k : Nat) (hi : i < ps.length) (hk : k < pt.length) (as' at' : Option Addr) (cs ct bc bs ba : Nat) (f h : Int × Int → Bool) (w : World)
    (h0 : w.cell? ⟨bc, 0, none⟩ = some (.slice as' ps.length cs)) (h1 : w.cell? ⟨bc, 1, none⟩ = some (.slice at' pt.length ct))
    (h2 : w.cell? ⟨bc, 2, none⟩ = some (.map (some bs))) (h3 : w.cell? ⟨bc, 3, none⟩ = some (.map (some ba))) (h4 : MapF w bs f) (h5 : MapF w ba h) (hne : bs ≠ ba)
    (l1 : ps.length ≤ cs) (l2 : cs ≤ maxLen) (l3 : SlP w S ps as') (l1' : pt.length ≤ ct) (l2' : ct ≤ maxLen) (l3' : SlP w S' pt at') (hlen : ps[i].1.v ≤ 0 → pt[k].1.v ≤ 0 → ps[i].1.f = pt[k].1.f → ps[i].2.length ≤ pt[k].2.length) :
    Calls Try.prog 108 #[.pointer (some ⟨bc, 0, none⟩), .int .i64 i, .int .i64 k] w
      fun e w' => e = .returned (.tuple #[]) ∧ Upd (fun b => b = bs ∨ b = ba) w w' ∧ MapF w' bs (setF f (i, k) (eqV f ps[i] pt[k])) ∧ MapF w' ba (setF h (i, k) (grP (setF f (i, k) (eqV f ps[i] pt[k])) h ps[i] pt[k] i k)) := by
  unfold maxLen at l2 l2'
  obtain ⟨b, o, rfl⟩ := l3.some_ (by omega)
  obtain ⟨b', o', rfl⟩ := l3'.some_ (by omega)
  obtain ⟨c0, c1, ⟨sa, sn, c2⟩, aa, ca, c3, m1, m2, m3⟩ := SlP.readAt l3 hi
  obtain ⟨d0, d1, ⟨ta, tn, d2⟩, ab, cb, d3, n1, n2, n3⟩ := SlP.readAt l3' hk
  have q1 : (0 : Int) ≤ (i : Int) := by omega
  have q2 : (i : Int) < (ps.length : Int) := by omega
  have q3 : (0 : Int) ≤ (k : Int) := by omega
  have q4 : (k : Int) < (pt.length : Int) := by omega
  have EV := hid (show eqV f ps[i] pt[k] = (ps[i].1.v == pt[k].1.v && ps[i].1.f == pt[k].1.f && (ps[i].2.length == pt[k].2.length && (ps[i].2.zip pt[k].2).all f)) from rfl)
  have HLEN := hid hlen; clear hlen
  have NE := hid hne; clear hne
  generalize ps[i] = p at *
  generalize pt[k] = q at *
  go_enter Try.func108, Try.ntmps108
  go_upto_region 1 with (fail)
  go_cut [6, 7] from 9 to 22 (fun s6 s7 wx => ∃ x y : Nat, s6 = .pointer (some ⟨x, 0, none⟩) ∧ s7 = .pointer (some ⟨y, 0, none⟩) ∧
    wx.cell? ⟨x, 0, none⟩ = some (.int .i64 p.1.v) ∧ wx.cell? ⟨x, 1, none⟩ = some (.int .i64 p.1.f) ∧ wx.cell? ⟨x, 2, none⟩ = some (.slice sa p.1.us.length sn) ∧ wx.cell? ⟨x, 3, none⟩ = some (.slice aa p.2.length ca) ∧
    wx.cell? ⟨y, 0, none⟩ = some (.int .i64 q.1.v) ∧ wx.cell? ⟨y, 1, none⟩ = some (.int .i64 q.1.f) ∧ wx.cell? ⟨y, 2, none⟩ = some (.slice ta q.1.us.length tn) ∧ wx.cell? ⟨y, 3, none⟩ = some (.slice ab q.2.length cb) ∧
    Ext (w.alloc (.cells #[.pointer (some ⟨bc, 0, none⟩)] 129)) wx)
  case first =>
    refine wp_region_takes [0, 1, 2, 3, 4, 5, 6, 7, 8, 9, 10, 11, 12, 13] 4 (by kernel_rfl) (by kernel_rfl) ?_
    intro I _ W hE
    have f0 := mild_cell hE (show (w.alloc (.cells #[.pointer (some ⟨bc, 0, none⟩)] 129)).cell? ⟨bc, 0, none⟩ = _ from (Ext.one _ _).some_ h0)
    have f1 := mild_cell hE (show (w.alloc (.cells #[.pointer (some ⟨bc, 0, none⟩)] 129)).cell? ⟨bc, 1, none⟩ = _ from (Ext.one _ _).some_ h1)
    have g0 := mild_cell hE (show (w.alloc (.cells #[.pointer (some ⟨bc, 0, none⟩)] 129)).cell? ⟨w.heap.size, 0, none⟩ = some (.pointer (some ⟨bc, 0, none⟩)) by go_simp)
    have e0 := mild_cell hE (show (w.alloc (.cells #[.pointer (some ⟨bc, 0, none⟩)] 129)).cell? ⟨b, o + i * 4, none⟩ = _ from (Ext.one _ _).some_ c0)
    have e1 := mild_cell hE (show (w.alloc (.cells #[.pointer (some ⟨bc, 0, none⟩)] 129)).cell? ⟨b, o + i * 4 + 1, none⟩ = _ from (Ext.one _ _).some_ c1)
    have e2 := mild_cell hE (show (w.alloc (.cells #[.pointer (some ⟨bc, 0, none⟩)] 129)).cell? ⟨b, o + i * 4 + 2, none⟩ = _ from (Ext.one _ _).some_ c2)
    have e3 := mild_cell hE (show (w.alloc (.cells #[.pointer (some ⟨bc, 0, none⟩)] 129)).cell? ⟨b, o + i * 4 + 3, none⟩ = _ from (Ext.one _ _).some_ c3)
    have k0 := mild_cell hE (show (w.alloc (.cells #[.pointer (some ⟨bc, 0, none⟩)] 129)).cell? ⟨b', o' + k * 4, none⟩ = _ from (Ext.one _ _).some_ d0)
    have k1 := mild_cell hE (show (w.alloc (.cells #[.pointer (some ⟨bc, 0, none⟩)] 129)).cell? ⟨b', o' + k * 4 + 1, none⟩ = _ from (Ext.one _ _).some_ d1)
    have k2 := mild_cell hE (show (w.alloc (.cells #[.pointer (some ⟨bc, 0, none⟩)] 129)).cell? ⟨b', o' + k * 4 + 2, none⟩ = _ from (Ext.one _ _).some_ d2)
    have k3 := mild_cell hE (show (w.alloc (.cells #[.pointer (some ⟨bc, 0, none⟩)] 129)).cell? ⟨b', o' + k * 4 + 3, none⟩ = _ from (Ext.one _ _).some_ d3)
    repeat (refine wpTakes_want (by rfl) (by rfl) ?_; intro K hK; go_big_quiet_op; go_big_quiet_on)
    refine wpTakes_nil ?_
    clear f0 f1 g0 e0 e1 e2 e3 k0 k1 k2 k3
    refine wpAnyH_all (rs := [14, 15]) (by kernel_rfl) (by simp) ?_
    intro n hn
    simp only [List.mem_cons, List.not_mem_nil, or_false] at hn
    rcases hn with rfl | rfl
    · refine wpOp_go (by rfl) rfl ?_
      intro K hK
      go_simp
      refine hK _ _ ⟨(by repeat (first | exact Ext.rfl' _ | refine Ext.new ?_ _ | refine Ext.draw ?_)), ?_⟩
      clear hK K
      refine wpAnyH_all (rs := [15]) (by kernel_rfl) (by simp) ?_
      intro n hn
      obtain rfl := List.mem_singleton.1 hn
      refine wpOp_go (by rfl) rfl ?_
      intro K hK
      go_simp
      refine hK _ _ ⟨(by repeat (first | exact Ext.rfl' _ | refine Ext.new ?_ _ | refine Ext.draw ?_)), ?_⟩
      clear hK K
      refine wpAnyH_all (rs := [16]) (by kernel_rfl) (by simp) ?_
      intro n hn
      obtain rfl := List.mem_singleton.1 hn
      refine wpOp_go (by rfl) rfl ?_
      intro K hK
      go_simp
      refine hK _ _ ⟨(by repeat (first | exact Ext.rfl' _ | refine Ext.new ?_ _ | refine Ext.draw ?_)), ?_⟩
      clear hK K
      refine wpAnyH_all (rs := [17]) (by kernel_rfl) (by simp) ?_
      intro n hn
      obtain rfl := List.mem_singleton.1 hn
      refine wpOp_go (by rfl) rfl ?_
      intro K hK
      go_simp
      refine hK _ _ ⟨(by repeat (first | exact Ext.rfl' _ | refine Ext.new ?_ _ | refine Ext.draw ?_)), ?_⟩
      clear hK K
      refine wpAnyH_done (by kernel_rfl) ⟨rfl, ?_⟩ _
      go_wp2_with fail
      go_meet
      exact ⟨w.heap.size + 1, w.heap.size + 2, rfl, rfl, by go_simp, by go_simp, by go_simp, by go_simp, by go_simp, by go_simp, by go_simp, by go_simp, (by repeat (first | exact Ext.rfl' _ | refine Ext.new ?_ _ | refine Ext.draw ?_))⟩
    · refine wpOp_go (by rfl) rfl ?_
      intro K hK
      go_simp
      refine hK _ _ ⟨(by repeat (first | exact Ext.rfl' _ | refine Ext.new ?_ _ | refine Ext.draw ?_)), ?_⟩
      clear hK K
      refine wpAnyH_all (rs := [14]) (by kernel_rfl) (by simp) ?_
      intro n hn
      obtain rfl := List.mem_singleton.1 hn
      refine wpOp_go (by rfl) rfl ?_
      intro K hK
      go_simp
      refine hK _ _ ⟨(by repeat (first | exact Ext.rfl' _ | refine Ext.new ?_ _ | refine Ext.draw ?_)), ?_⟩
      clear hK K
      refine wpAnyH_all (rs := [16]) (by kernel_rfl) (by simp) ?_
      intro n hn
      obtain rfl := List.mem_singleton.1 hn
      refine wpOp_go (by rfl) rfl ?_
      intro K hK
      go_simp
      refine hK _ _ ⟨(by repeat (first | exact Ext.rfl' _ | refine Ext.new ?_ _ | refine Ext.draw ?_)), ?_⟩
      clear hK K
      refine wpAnyH_all (rs := [17]) (by kernel_rfl) (by simp) ?_
      intro n hn
      obtain rfl := List.mem_singleton.1 hn
      refine wpOp_go (by rfl) rfl ?_
      intro K hK
      go_simp
      refine hK _ _ ⟨(by repeat (first | exact Ext.rfl' _ | refine Ext.new ?_ _ | refine Ext.draw ?_)), ?_⟩
      clear hK K
      refine wpAnyH_done (by kernel_rfl) ⟨rfl, ?_⟩ _
      go_wp2_with fail
      go_meet
      exact ⟨w.heap.size + 2, w.heap.size + 1, rfl, rfl, by go_simp, by go_simp, by go_simp, by go_simp, by go_simp, by go_simp, by go_simp, by go_simp, (by repeat (first | exact Ext.rfl' _ | refine Ext.new ?_ _ | refine Ext.draw ?_))⟩
  case rest =>
    obtain ⟨x, y, rfl, rfl, p0, p1, p2, p3, y0, y1, y2, y3, hxx⟩ := hcut
    obtain ⟨wb, rfl⟩ : ∃ wb : World, wb = wc := ⟨_, rfl⟩
    have hx0 := (Ext.one _ _).step hxx
    have b0 : wb.cell? ⟨w.heap.size, 0, none⟩ = some (.pointer (some ⟨bc, 0, none⟩)) := hxx.boxed 0
    have b2 := hx0.some_ h2
    have b3 := hx0.some_ h3
    have r1 := h4.ext hx0
    have r2 := h5.ext hx0
    have s1 := m3.ext hx0
    have s2 := n3.ext hx0
    clear h0 h1 h2 h3 h4 h5 l3 l3' c0 c1 c2 c3 d0 d1 d2 d3 m3 n3 hxx
    obtain ⟨w1, hw1⟩ : ∃ w1, w1 = wb.alloc (.cells #[.int .i64 i, .int .i64 k] 136) := ⟨_, rfl⟩
    have hx1 : Ext wb w1 := by rw [hw1]; exact Ext.one _ _
    have a0 : w1.cell? ⟨wb.heap.size, 0, none⟩ = some (.int .i64 i) := by rw [hw1]; go_simp
    have a1 : w1.cell? ⟨wb.heap.size, 1, none⟩ = some (.int .i64 k) := by rw [hw1]; go_simp
    have b0 := hx1.some_ b0
    have b2 := hx1.some_ b2
    have b3 := hx1.some_ b3
    have p0 := hx1.some_ p0
    have p1 := hx1.some_ p1
    have p2 := hx1.some_ p2
    have p3 := hx1.some_ p3
    have y0 := hx1.some_ y0
    have y1 := hx1.some_ y1
    have y2 := hx1.some_ y2
    have y3 := hx1.some_ y3
    have r1 := r1.ext hx1
    have r2 := r2.ext hx1
    have s1 := s1.ext hx1
    have s2 := s2.ext hx1
    have hxw := hx0.step hx1
    have HW := hid hw1
    clear hw1
    go_upto_region 3 with (fail)
    rw [← HW.out]
    go_cut [8] from 26 to 54 (fun s8 wx => s8 = .pointer (some ⟨wb.heap.size, 0, none⟩) ∧ MapF wx bs (setF f (i, k) (eqV f p q)) ∧ Upd (fun b => b = bs) w1 wx)
    case first =>
      refine wp_region_tail 29 (by kernel_rfl) (by kernel_rfl) ?_
      intro I _ W hE hC
      have f0 := mild_cell hE b0
      have f1 := mild_cell hE b2
      have f2 := mild_cell hE a0
      have f3 := mild_cell hE a1
      have f4 := mild_cell hE p0
      have f5 := mild_cell hE p1
      have f6 := mild_cell hE p3
      have f7 := mild_cell hE y0
      have f8 := mild_cell hE y1
      have f9 := mild_cell hE y3
      simp only [List.take_succ_cons, List.take_zero, List.drop_succ_cons, List.drop_zero]
      by_cases hv : p.1.v = q.1.v
      · have hv' : (p.1.v == q.1.v) = true := by simpa using hv
        by_cases hf : p.1.f = q.1.f
        · have hf' : (p.1.f == q.1.f) = true := by simpa using hf
          by_cases hl : p.2.length = q.2.length
          · have X := hid (show eqV f p q = ((p.2.zip q.2).all fun z => f (z.1, z.2)) by rw [EV.out, hv, hf, hl]; simp)
            have HL2 := hid hl
            clear hv hf hl
            repeat (go_big_quiet_step ((refine mild_call hE hC (equalI_any S S' p.2 q.2 HL2.out (fun a b => f (a, b)) aa ab ca cb 134 #[.pointer (some ⟨w.heap.size, 0, none⟩)] _ m1 m2 (s1.ext (hE _)) (s2.ext (hE _)) one1_enter (fun j hj hj' wr hxr => one1_any _ _ _ bc bs f wr (hxr.some_ ((hE _).some_ b0)) (hxr.some_ ((hE _).some_ b2)) ((r1.ext (hE _)).ext hxr))))))
            refine wpQuiet_nil ?_
            rintro _ ⟨i1, rfl⟩
            change wpList _ _ _ _ _ (W i1)
            obtain ⟨m, hm, hmf⟩ := r1.ext (hE i1)
            refine wpList_put (by rfl) (by rfl) _ _ _ (by rfl) hm pk_ok Try.underlying132 (↑i, ↑k) _ (by rfl) (by rfl) (by rfl) ?_
            intro w2 hw2 hg2
            go_wp2_with fail
            go_meet
            exact ⟨rfl, by rw [X.out]; exact MapF.put hmf hw2, (Upd.of_ext (hE i1)).trans (Upd.of_grown hg2 rfl)⟩
          · have X := hid (show eqV f p q = false by rw [EV.out]; simp [hl])
            have HL2 := hid hl
            clear hv hf hl
            repeat (go_big_quiet_step ((refine mild_call hE hC (equalI_no' p.2 q.2 HL2.out aa ab ca cb _ _))))
            refine wpQuiet_nil ?_
            rintro _ ⟨i1, rfl⟩
            change wpList _ _ _ _ _ (W i1)
            obtain ⟨m, hm, hmf⟩ := r1.ext (hE i1)
            refine wpList_put (by rfl) (by rfl) _ _ _ (by rfl) hm pk_ok Try.underlying132 (↑i, ↑k) _ (by rfl) (by rfl) (by rfl) ?_
            intro w2 hw2 hg2
            go_wp2_with fail
            go_meet
            exact ⟨rfl, by rw [X.out]; exact MapF.put hmf hw2, (Upd.of_ext (hE i1)).trans (Upd.of_grown hg2 rfl)⟩
        · have hf' : (p.1.f == q.1.f) = false := by simpa using hf
          have X := hid (show eqV f p q = false by rw [EV.out]; simp [hf])
          clear hv hf
          repeat (go_big_quiet_step (fail))
          refine wpQuiet_nil ?_
          rintro _ ⟨i1, rfl⟩
          change wpList _ _ _ _ _ (W i1)
          obtain ⟨m, hm, hmf⟩ := r1.ext (hE i1)
          refine wpList_put (by rfl) (by rfl) _ _ _ (by rfl) hm pk_ok Try.underlying132 (↑i, ↑k) _ (by rfl) (by rfl) (by rfl) ?_
          intro w2 hw2 hg2
          go_wp2_with fail
          go_meet
          exact ⟨rfl, by rw [X.out]; exact MapF.put hmf hw2, (Upd.of_ext (hE i1)).trans (Upd.of_grown hg2 rfl)⟩
      · have hv' : (p.1.v == q.1.v) = false := by simpa using hv
        have X := hid (show eqV f p q = false by rw [EV.out]; simp [hv])
        clear hv
        repeat (go_big_quiet_step (fail))
        refine wpQuiet_nil ?_
        rintro _ ⟨i1, rfl⟩
        change wpList _ _ _ _ _ (W i1)
        obtain ⟨m, hm, hmf⟩ := r1.ext (hE i1)
        refine wpList_put (by rfl) (by rfl) _ _ _ (by rfl) hm pk_ok Try.underlying132 (↑i, ↑k) _ (by rfl) (by rfl) (by rfl) ?_
        intro w2 hw2 hg2
        go_wp2_with fail
        go_meet
        exact ⟨rfl, by rw [X.out]; exact MapF.put hmf hw2, (Upd.of_ext (hE i1)).trans (Upd.of_grown hg2 rfl)⟩
    case rest =>
      obtain ⟨rfl, rr1, hu⟩ := hcut
      have nb : ∀ (p : Addr) (v : Value), w1.cell? p = some v → wc.cell? p = some v := fun _ _ hc => hu.some_ (r1.no_cell hc) hc
      have b0 := nb _ _ b0
      have b2 := nb _ _ b2
      have b3 := nb _ _ b3
      have a0 := nb _ _ a0
      have a1 := nb _ _ a1
      have p0 := nb _ _ p0
      have p1 := nb _ _ p1
      have p2 := nb _ _ p2
      have p3 := nb _ _ p3
      have y0 := nb _ _ y0
      have y1 := nb _ _ y1
      have y2 := nb _ _ y2
      have y3 := nb _ _ y3
      have rr2 := r2.upd hu NE.out.symm
      have t1 : SlI wc S p.2 aa := Sl.mono s1 (fun _ h _ => h) hu.size fun _ _ _ _ _ hc => nb _ _ hc
      have t2 : SlI wc S' q.2 ab := Sl.mono s2 (fun _ h _ => h) hu.size fun _ _ _ _ _ hc => nb _ _ hc
      clear nb
      go_wp2_with fail
      refine wp_region_tail 11 (by kernel_rfl) (by kernel_rfl) ?_
      intro I _ W hE hC
      have f0 := mild_cell hE b0
      have f1 := mild_cell hE b3
      have f2 := mild_cell hE a0
      have f3 := mild_cell hE a1
      have f4 := mild_cell hE p0
      have f5 := mild_cell hE p1
      have f6 := mild_cell hE p2
      have f7 := mild_cell hE p3
      have f8 := mild_cell hE y0
      have f9 := mild_cell hE y1
      have f10 := mild_cell hE y2
      have f11 := mild_cell hE y3
      simp only [List.take_succ_cons, List.take_zero, List.drop_succ_cons, List.drop_zero]
      repeat (go_big_quiet_step ((refine mild_call hE hC (greater_any S S' p.1.v p.1.f q.1.v q.1.f i k _ _ p.2 q.2 aa ab ca cb bc bs ba (setF f (i, k) (eqV f p q)) h _ rfl rfl ((hE _).some_ b2) ((hE _).some_ b3) (rr1.ext (hE _)) (rr2.ext (hE _)) m1 m2 (t1.ext (hE _)) n1 n2 (t2.ext (hE _)) HLEN.out))))
      refine wpQuiet_nil ?_
      rintro _ ⟨i1, rfl⟩
      change wpList _ _ _ _ _ (W i1)
      obtain ⟨m, hm, hmf⟩ := rr2.ext (hE i1)
      refine wpList_put (by rfl) (by rfl) _ _ _ (by rfl) hm pk_ok Try.underlying132 (↑i, ↑k) _ (by rfl) (by rfl) (by rfl) ?_
      intro w2 hw2 hg2
      go_wp2_with fail
      go_end0
      refine ⟨rfl, ?_, ?_, MapF.put hmf hw2⟩
      · refine ((Upd.of_ext hxw).trans ?_).trans ((Upd.of_ext (hE i1)).trans (Upd.of_grown hg2 (.inr rfl)))
        exact ⟨hu.os, hu.tape, hu.output, hu.size, fun k hk hX => hu.block k hk fun e => hX (.inl e)⟩
      · exact (rr1.ext (hE i1)).upd (X := fun b => b = ba) (Upd.of_grown hg2 rfl) NE.out
end Go.Proofs.Ytmeekpinkfpnhaa

namespace Go.Proofs.Ytmeekpinkfpnhaa

/-- Numbers of the places where these terms stand, all ahead of i. -/
inductive Pts (L : List (Tm × List Int)) (i : Nat) : List Int → List Tm → Prop
  | nil : Pts L i [] []
  | cons {j : Nat} {u : Tm} {l : List Int} {us : List Tm} (hj : j < i) (hu : (L[j]?).map (·.1) = some u) (h : Pts L i l us) : Pts L i ((j : Int) :: l) (u :: us)
theorem Pts.of {L : List (Tm × List Int)} {i : Nat} : ∀ (us : List Tm) (l : List Int), l.length = us.length → (∀ (m : Nat) (u : Tm), us[m]? = some u → ∃ j : Nat, l[m]? = some (j : Int) ∧ j < i ∧ (L[j]?).map (·.1) = some u) → Pts L i l us
  | [], [], _, _ => .nil
  | [], _ :: _, h, _ => by simp at h
  | _ :: _, [], h, _ => by simp at h
  | u :: us, x :: l, h, H => by
    obtain ⟨j, h1, h2, h3⟩ := H 0 u rfl
    simp at h1
    subst h1
    exact .cons h2 h3 (Pts.of us l (by simpa using h) fun m v hv => by simpa using H (m + 1) v (by simpa using hv))
theorem WellN.pts {L : List (Tm × List Int)} {i : Nat} (h : WellN L i) (hi : i < L.length) : Pts L i L[i].2 L[i].1.us := by
  obtain ⟨h1, h2⟩ := h L[i] (List.getElem?_eq_getElem hi)
  exact Pts.of _ _ h1 h2

def Known (S T : List (Tm × List Int)) (f h : Int × Int → Bool) (D : Nat → Nat → Prop) : Prop :=
  ∀ (a b : Nat) (u v : Tm), D a b → (S[a]?).map (·.1) = some u → (T[b]?).map (·.1) = some v → f (a, b) = same u v ∧ h (a, b) = gt u v

section
variable {S T : List (Tm × List Int)} {f h : Int × Int → Bool} {D : Nat → Nat → Prop} {i k : Nat}
theorem Pts.zip_all (hK : Known S T f h D) (hD : ∀ a b, a < i → D a b) : ∀ {l : List Int} {us : List Tm}, Pts S i l us → ∀ {l' : List Int} {us' : List Tm}, Pts T k l' us' → (l.length == l'.length && (l.zip l').all f) = sameL us us' := by
  intro l us hl
  induction hl with
  | nil => intro l' us' hl'; cases hl' <;> simp [sameL]
  | cons hj hu _ ih =>
    intro l' us' hl'
    cases hl' with
    | nil => simp [sameL]
    | cons hj' hu' hl' =>
      have h1 := (hK _ _ _ _ (hD _ _ hj) hu hu').1
      have h2 := ih hl'
      rw [sameL, ← h2, ← h1]
      simp only [List.length_cons, List.zip_cons_cons, List.all_cons]
      rw [Bool.eq_iff_iff]
      simp
      exact ⟨fun ⟨a, b, c⟩ => ⟨b, a, c⟩, fun ⟨b, a, c⟩ => ⟨a, b, c⟩⟩
theorem Pts.any_s (hK : Known S T f h D) (hD : ∀ a b, a < i → D a b) {t : Tm} (ht : (T[k]?).map (·.1) = some t) : ∀ {l : List Int} {us : List Tm}, Pts S i l us → l.any (fun a => f (a, k) || h (a, k)) = us.any (fun a => same a t || gt a t) := by
  intro l us hl
  induction hl with
  | nil => rfl
  | cons hj hu _ ih =>
    obtain ⟨h1, h2⟩ := hK _ _ _ _ (hD _ k hj) hu ht
    rw [List.any_cons, List.any_cons, ih, h1, h2]
theorem Pts.any_t (hK : Known S T f h D) (hD : ∀ b, b < k → D i b) {s : Tm} (hs : (S[i]?).map (·.1) = some s) : ∀ {l : List Int} {us : List Tm}, Pts T k l us → l.any (fun b => !h (i, b)) = us.any (fun b => !gt s b) := by
  intro l us hl
  induction hl with
  | nil => rfl
  | cons hj hu _ ih =>
    obtain ⟨h1, h2⟩ := hK _ _ _ _ (hD _ hj) hs hu
    rw [List.any_cons, List.any_cons, ih, h2]
theorem Pts.lexi (hK : Known S T f h D) (hD : ∀ a b, a < i → D a b) : ∀ {l : List Int} {us : List Tm}, Pts S i l us → ∀ {l' : List Int} {us' : List Tm}, Pts T k l' us' → lexi f h l l' = lexG gt us us' := by
  intro l us hl
  induction hl with
  | nil => intro l' us' hl'; cases hl' <;> rfl
  | cons hj hu _ ih =>
    intro l' us' hl'
    cases hl' with
    | nil => rfl
    | cons hj' hu' hl' =>
      obtain ⟨h1, h2⟩ := hK _ _ _ _ (hD _ _ hj) hu hu'
      rw [Ytmeekpinkfpnhaa.lexi, lexG, h1, h2, ih hl']

/-- The pairs that were compared. -/
def lexlt (i k : Nat) (a b : Nat) : Prop := a < i ∨ (a = i ∧ b < k)
theorem setF_ne {x : Bool} {j l : Int × Int} (h : l ≠ j) : setF f j x l = f l := by simp [setF, h]
theorem setF_at {x : Bool} {j : Int × Int} : setF f j x j = x := by simp [setF]
theorem pair_ne {a b : Nat} (h : lexlt i k a b) : ((a : Int), (b : Int)) ≠ ((i : Int), (k : Int)) := by
  intro e
  simp only [Prod.mk.injEq] at e
  unfold lexlt at h
  omega

theorem Known.eqV (hK : Known S T f h (lexlt i k)) (hi : i < S.length) (hk : k < T.length) (hS : WellN S i) (hT : WellN T k) : eqV f S[i] T[k] = same S[i].1 T[k].1 := by
  rw [Ytmeekpinkfpnhaa.eqV, same_eq, (hS.pts hi).zip_all hK (fun _ _ h => .inl h) (hT.pts hk)]
theorem Known.grP (hK : Known S T f h (lexlt i k)) (hi : i < S.length) (hk : k < T.length) (hS : WellN S i) (hT : WellN T k) : grP f h S[i] T[k] i k = gt S[i].1 T[k].1 := by
  rw [Ytmeekpinkfpnhaa.grP, grV, gt_eq, gtStep, (hS.pts hi).any_s hK (fun _ _ h => .inl h) (t := T[k].1) (by simp [hk]), (hT.pts hk).any_t hK (fun _ h => .inr ⟨rfl, h⟩) (s := S[i].1) (by simp [hi]),
    (hS.pts hi).lexi hK (fun _ _ h => .inl h) (hT.pts hk)]
theorem Known.step (hK : Known S T f h (lexlt i k)) (hi : i < S.length) (hk : k < T.length) (hS : WellN S i) (hT : WellN T k) :
    Known S T (setF f (i, k) (Ytmeekpinkfpnhaa.eqV f S[i] T[k])) (setF h (i, k) (Ytmeekpinkfpnhaa.grP (setF f (i, k) (Ytmeekpinkfpnhaa.eqV f S[i] T[k])) h S[i] T[k] i k)) (lexlt i (k + 1)) := by
  have hK' : Known S T (setF f (i, k) (Ytmeekpinkfpnhaa.eqV f S[i] T[k])) h (lexlt i k) := fun a b u v hd hu hv => by
    rw [setF_ne (pair_ne hd)]
    exact hK a b u v hd hu hv
  rw [hK'.grP hi hk hS hT, hK.eqV hi hk hS hT]
  intro a b u v hd hu hv
  by_cases he : lexlt i k a b
  · rw [setF_ne (pair_ne he), setF_ne (pair_ne he)]
    exact hK a b u v he hu hv
  · obtain ⟨rfl, rfl⟩ : a = i ∧ b = k := by unfold lexlt at *; omega
    rw [setF_at, setF_at]
    simp [hi] at hu
    simp [hk] at hv
    subst hu hv
    exact ⟨rfl, rfl⟩
end

/-- Where the functions are the same, so are the numbers of arguments. -/
def Arit (L M : List (Tm × List Int)) : Prop := ∀ p ∈ L, ∀ q ∈ M, p.1.v ≤ 0 → q.1.v ≤ 0 → p.1.f = q.1.f → p.2.length = q.2.length
theorem formAll_mem {g : List Int} : ∀ {l : List Tm}, formAll g l = 0 → ∀ x ∈ l, formOne g x.v x.f x.us.length = 0
  | y :: l, h, x, hx => by
    rw [formAll] at h
    by_cases hy : formOne g y.v y.f y.us.length = 0
    · simp [hy] at h
      rcases List.mem_cons.1 hx with rfl | hx
      · exact hy
      · exact formAll_mem h x hx
    · simp [hy] at h
theorem arity {g : List Int} {t : Tm} (h : form g t = 0) {p : Tm × List Int} (hp : p ∈ pn t 0) (hv : p.1.v ≤ 0) : (p.2.length : Int) = g.getD p.1.f.toNat 0 := by
  have h1 : formOne g p.1.v p.1.f p.1.us.length = 0 := formAll_mem (by rw [formAll_parts]; exact h) p.1 (by rw [← pn_fst t 0]; exact List.mem_map.2 ⟨p, hp, rfl⟩)
  obtain ⟨i, hi, rfl⟩ := List.getElem_of_mem hp
  rw [((pn_well0 t i hi) _ (List.getElem?_eq_getElem hi)).1]
  generalize (pn t 0)[i] = p at *
  unfold formOne at h1
  split at h1
  · split at h1
    · cases h1
    · omega
  · split at h1
    · cases h1
    · split at h1
      · cases h1
      · rename_i hn; simpa using hn
theorem arit_form {g : List Int} {s t : Tm} (hs : form g s = 0) (ht : form g t = 0) : Arit (pn s 0) (pn t 0) := fun p hp q hq hv hw hf => by
  have h1 := arity hs hp hv
  have h2 := arity ht hq hw
  rw [hf, ← h2] at h1
  omega
theorem pn_last' (t : Tm) : ∃ l, pn t 0 = l ++ [(t, idxs t.us 0)] := ⟨_, pn_eq t 0⟩
theorem Known.last {s t : Tm} {f h : Int × Int → Bool} (hK : Known (pn s 0) (pn t 0) f h fun _ _ => True) : h (((pn s 0).length : Int) - 1, ((pn t 0).length : Int) - 1) = gt s t := by
  have e1 : (((pn s 0).length : Int) - 1) = ((tsz s - 1 : Nat) : Int) := by rw [pn_len]; have := tsz_pos s; unfold tsz at *; omega
  have e2 : (((pn t 0).length : Int) - 1) = ((tsz t - 1 : Nat) : Int) := by rw [pn_len]; have := tsz_pos t; unfold tsz at *; omega
  rw [e1, e2]
  exact (hK _ _ s t trivial (by rw [pn_last]; rfl) (by rw [pn_last]; rfl)).2
end Go.Proofs.Ytmeekpinkfpnhaa

namespace Go.Proofs.Ytmeekpinkfpnhaa
open Go.RowKit

/-- Rows of different types of elements lie apart. -/
theorem Own.ne_' {w : World} {base base' e e' sz sz' : Nat} {xs xs' : List Value} {v v' : Value} (h : Own w base e sz xs v) (h' : Own w base' e' sz' xs' v') (hne : e ≠ e') : v.ownBlock ≠ v'.ownBlock ∨ v.ownBlock = none := by
  rcases h.1.2 with ⟨rfl, _⟩ | ⟨g, cap, cur, rfl, _, hh, _⟩
  · exact .inr rfl
  · left
    rcases h'.1.2 with ⟨rfl, _⟩ | ⟨g', cap', cur', rfl, _, hh', _⟩
    · simp [Value.ownBlock]
    · intro e1
      have : g = g' := by simpa [Value.ownBlock] using e1
      subst this
      rw [hh] at hh'
      injection hh' with hh'
      injection hh' with _ h2
      exact hne h2

theorem grown_trans2 {a b c : World} {r r' : Option Nat} (h : a.grownBy b r) (hr : ∀ g, r' = some g → r = some g ∨ a.heap.size ≤ g) (k : b.grownBy c r') : a.grownBy c r :=
  ⟨k.os.trans h.os, k.tape.trans h.tape, k.output.trans h.output, Nat.le_trans h.size k.size, fun i hi hne => by
    have := h.size
    rw [k.block i (by omega) (fun e => by
      rcases hr i e.symm with h' | h'
      · exact hne h'.symm
      · omega), h.block i hi hne]⟩

/-- How a thing is a value, in blocks of S: it stays so while these blocks do. -/
structure VOk {α : Type} (V : World → (Nat → Prop) → α → Value → Prop) : Prop where
  keep : ∀ {w w' : World} {S S' : Nat → Prop} {t : α} {x : Value}, V w S t x → Keeps S w w' → (∀ b, S b → b < w.heap.size → S' b) → V w' S' t x

section
variable {α : Type} {V : World → (Nat → Prop) → α → Value → Prop} {w w' : World} {base e sz : Nat} {S S' : Nat → Prop} {ts : List α} {v : Value}
def OwnX (V : World → (Nat → Prop) → α → Value → Prop) (w : World) (base e sz : Nat) (S : Nat → Prop) (ts : List α) (v : Value) : Prop :=
  ∃ xs, Own w base e sz xs v ∧ xs.length = ts.length ∧ ∀ i (h : i < ts.length) (h' : i < xs.length), V w (fun b => S b ∧ some b ≠ v.ownBlock) ts[i] xs[i]
theorem OwnX.nil_ (V : World → (Nat → Prop) → α → Value → Prop) (w : World) (base e sz : Nat) (S : Nat → Prop) : OwnX V w base e sz S [] (.slice none 0 0) := ⟨[], Own.nil_ _ _ _ _, rfl, fun i h => absurd h (by simp)⟩
theorem OwnX.block (h : OwnX V w base e sz S ts v) {g : Nat} (hg : v.ownBlock = some g) : base ≤ g ∧ g < w.heap.size := by
  obtain ⟨xs, h1, _⟩ := h; exact h1.block hg
theorem OwnX.ext (hV : VOk V) (h : OwnX V w base e sz S ts v) (hx : Ext w w') : OwnX V w' base e sz S ts v := by
  obtain ⟨xs, h1, h2, h3⟩ := h
  exact ⟨xs, h1.ext hx, h2, fun i hi hi' => hV.keep (h3 i hi hi') (.ext hx) fun _ h _ => h⟩
/-- Another row grew. -/
theorem OwnX.grown (hV : VOk V) {r : Option Nat} (h : OwnX V w base e sz S ts v) (hg : w.grownBy w' r) (hne : v.ownBlock ≠ r ∨ v.ownBlock = none) (hS : ∀ b, S b → some b ≠ r) : OwnX V w' base e sz S ts v := by
  obtain ⟨xs, h1, h2, h3⟩ := h
  exact ⟨xs, h1.grown hg hne, h2, fun i hi hi' => hV.keep (h3 i hi hi') (Keeps.grown hg fun b hb => hS b hb.1) fun _ h _ => h⟩
theorem OwnX.grown2 (hV : VOk V) {r : Option Nat} (h : OwnX V w base e sz S ts v) (hg : w.grownBy w' r) (hne : v.ownBlock ≠ r ∨ v.ownBlock = none) (hS : ∀ b, S b → b < w.heap.size → some b ≠ r) (hS' : ∀ b, S b → b < w.heap.size → S' b) : OwnX V w' base e sz S' ts v := by
  obtain ⟨xs, h1, h2, h3⟩ := h
  refine ⟨xs, h1.grown hg hne, h2, fun i hi hi' => ?_⟩
  have := hV.keep (h3 i hi hi') (.ext (Ext.rfl' w)) (S' := fun b => (S b ∧ some b ≠ v.ownBlock) ∧ b < w.heap.size) (fun b hb hl => ⟨hb, hl⟩)
  exact hV.keep this (Keeps.grown hg fun b hb => hS b hb.1.1 hb.2) fun b hb _ => ⟨hS' b hb.1.1 hb.2, hb.1.2⟩
theorem OwnX.wide (hV : VOk V) (h : OwnX V w base e sz S ts v) (hS : ∀ b, S b → b < w.heap.size → S' b) : OwnX V w base e sz S' ts v := by
  obtain ⟨xs, h1, h2, h3⟩ := h
  exact ⟨xs, h1, h2, fun i hi hi' => hV.keep (h3 i hi hi') (.ext (Ext.rfl' w)) fun b hb hl => ⟨hS b hb.1 hl, hb.2⟩⟩
theorem OwnX.ne_ {β : Type} {V' : World → (Nat → Prop) → β → Value → Prop} {base' e' sz' : Nat} {ts' : List β} {v' : Value} {S2 : Nat → Prop} (h : OwnX V w base e sz S ts v) (h' : OwnX V' w base' e' sz' S2 ts' v') (hne : e ≠ e') : v.ownBlock ≠ v'.ownBlock ∨ v.ownBlock = none := by
  obtain ⟨xs, h1, _⟩ := h
  obtain ⟨xs', h1', _⟩ := h'
  exact Own.ne_' h1 h1' hne
theorem OwnX.slice (h : OwnX V w base e sz S ts v) : ∃ a cap, v = .slice a ts.length cap ∧ ts.length ≤ cap ∧ cap ≤ maxLen := by
  obtain ⟨xs, h1, h2, _⟩ := h
  rw [← h2]; exact h1.slice
theorem OwnX.push (hV : VOk V) {xs : List Value} {t : α} {y : Value} {g n cap : Nat}
    (h2 : xs.length = ts.length) (h3 : ∀ i (h : i < ts.length) (h' : i < xs.length), V w (fun b => S b ∧ some b ≠ v.ownBlock) ts[i] xs[i])
    (hy : V w S' t y) (hS : ∀ b, S' b → b < w.heap.size → S b ∧ some b ≠ v.ownBlock)
    (k1 : Own w' base e sz (xs ++ [y]) (.slice (some ⟨g, 0, none⟩) n cap)) (k2 : w.grownBy w' v.ownBlock) (k3 : v.ownBlock = some g ∨ w.heap.size < g) : OwnX V w' base e sz S (ts ++ [t]) (.slice (some ⟨g, 0, none⟩) n cap) := by
  have hk : Keeps (fun b => S b ∧ some b ≠ v.ownBlock) w w' := Keeps.grown k2 fun b hb => hb.2
  have hs : ∀ b, (S b ∧ some b ≠ v.ownBlock) → b < w.heap.size → (S b ∧ some b ≠ (Value.slice (some ⟨g, 0, none⟩) n cap).ownBlock) := by
    rintro b ⟨hb, hne⟩ hlt
    refine ⟨hb, fun e => ?_⟩
    have e' : b = g := by simpa [Value.ownBlock] using e
    subst e'
    rcases k3 with k3 | k3
    · exact hne k3.symm
    · omega
  refine ⟨xs ++ [y], k1, by simp [h2], fun i hi hi' => ?_⟩
  by_cases hlt : i < ts.length
  · rw [List.getElem_append_left hlt, List.getElem_append_left (by omega)]
    exact hV.keep (h3 i hlt (by omega)) hk hs
  · obtain rfl : i = ts.length := by have := hi; rw [List.length_append, List.length_singleton] at this; omega
    have e1 : (ts ++ [t])[ts.length] = t := by simp
    have e2 : (xs ++ [y])[ts.length]'hi' = y := by simp [← h2]
    rw [e1, e2]
    exact hV.keep (hV.keep hy (.ext (Ext.rfl' w)) hS) hk hs
/-- As a slice: R tells of the cells at an address. -/
theorem OwnX.sl {R : α → Addr → Prop} (h : OwnX V w base e sz S ts v)
    (hR : ∀ (t : α) (x : Value) (b o : Nat), V w (fun b => S b ∧ some b ≠ v.ownBlock) t x → x.cells.size = sz → (∀ j, j < sz → w.cell? ⟨b, o + j, none⟩ = x.cells[j]?) → R t ⟨b, o, none⟩) :
    ∃ a cap, v = .slice a ts.length cap ∧ ts.length ≤ cap ∧ cap ≤ maxLen ∧ Sl w (fun b => v.ownBlock = some b) sz R ts a := by
  obtain ⟨xs, h1, h2, h3⟩ := h
  rcases h1.form with ⟨rfl, rfl⟩ | ⟨g, cap, rfl, hb, hlt, hc1, hc2⟩
  · have : ts = [] := List.eq_nil_of_length_eq_zero (by simpa using h2.symm)
    subst this
    exact ⟨none, 0, rfl, by simp, by simp [maxLen], Sl.nil_⟩
  · refine ⟨some ⟨g, 0, none⟩, cap, by rw [h2], by omega, hc2, fun i hi => ⟨g, 0, rfl, rfl, hlt, ?_⟩⟩
    have hi' : i < xs.length := by omega
    exact hR _ _ _ _ (h3 i hi hi') (h1.2 _ (List.getElem_mem hi')) fun j hj => by
      have := h1.cell hi' hj
      rwa [Nat.zero_add]
end

abbrev No' : Nat → Prop := fun _ => False
theorem vok_tm : VOk TmV := ⟨fun h hk hs => h.keep hk hs⟩
theorem vok_ints : VOk SlIV := ⟨fun h hk hs => h.keep hk hs⟩
/-- A number as a value. -/
def IntV (_ : World) (_ : Nat → Prop) (n : Int) (x : Value) : Prop := x = .int .i64 n
theorem vok_int : VOk IntV := ⟨fun h _ _ => h⟩
/-- Numbers of the call's own, as a slice. -/
theorem OwnX.slI {w : World} {base e : Nat} {S : Nat → Prop} {ts : List Int} {v : Value} (h : OwnX IntV w base e 1 S ts v) : SlIV w (fun b => v.ownBlock = some b) ts v := by
  obtain ⟨a, cap, h1, h2, h3, h4⟩ := h.sl (R := IntC w) fun t x b o hx _ hc => by
    have := hc 0 (by omega)
    rw [hx] at this
    exact this
  exact ⟨a, cap, h1, h2, h3, h4⟩
/-- 'append(s, x)', the new block written out. -/
theorem wpList_push' {P : Program} {t e sz bytes : Nat} (hE : ElemOk P t e sz bytes) {ops : Array Oper} {rest : List Oper} {o : Oper} {a : Act} {Q : Exit → Act → World → Prop} (hgd : o.guard = none) (s x : Operand)
    (ho : o.op = .call { callee := .builtin .append, args := #[s, x], argTypes := #[t, t] }) {w : World} {cs : Array Value} (y : Value) (hcs : y.cells = cs) (hy : cs.size = sz) (h1 : ∀ u ∈ cs.toList, u.oneCell' = true)
    {base : Nat} {v : Value} {xs : List Value} (hs : a.eval s = v) (hown : Own w base e sz xs v) (hx : a.eval x = .slice (some ⟨w.heap.size, 0, none⟩) 1 1)
    (hbytes : (xs.length + 1) * bytes ≤ 140737488355328) (hlen : xs.length + 1 ≤ maxLen) (hbase : base ≤ w.heap.size)
    (k : ∀ g cap w', Own w' base e sz (xs ++ [y]) (.slice (some ⟨g, 0, none⟩) (xs.length + 1) cap) → w.grownBy w' v.ownBlock → (v.ownBlock = some g ∨ w.heap.size < g) → g < w'.heap.size →
      wpList P ops Q rest (a.put o.dst (.slice (some ⟨g, 0, none⟩) (xs.length + 1) cap)) w') : wpList P ops Q (o :: rest) a (w.alloc (.cells cs e)) := by
  subst hcs
  exact wpList_push hE hgd s x ho y hy h1 hs hown hx hbytes hlen hbase k
end Go.Proofs.Ytmeekpinkfpnhaa

namespace Go.Proofs.Ytmeekpinkfpnhaa
open Go.RowKit

theorem ei_part : ElemOk Try.prog 130 157 4 64 := ElemOk.mk' (z := .agg #[.int .i64 0, .int .i64 0, .slice none 0 0, .slice none 0 0]) Try.underlying130 (by kernel_rfl) rfl (by decide)
theorem ei_int : ElemOk Try.prog 22 3 1 8 := ElemOk.mk' (z := .int .i64 0) Try.underlying22 (by kernel_rfl) rfl (by decide)

/-- A part as a value. -/
def PtV (w : World) (S : Nat → Prop) (p : Tm × List Int) (x : Value) : Prop :=
  ∃ a cap a2 cap2, x = .agg #[.int .i64 p.1.v, .int .i64 p.1.f, .slice a p.1.us.length cap, .slice a2 p.2.length cap2] ∧ p.1.us.length ≤ cap ∧ cap ≤ maxLen ∧ SlT w S p.1.us a ∧ p.2.length ≤ cap2 ∧ cap2 ≤ maxLen ∧ SlI w S p.2 a2
theorem vok_pt : VOk PtV := ⟨fun ⟨a, cap, a2, cap2, e, h1, h2, h3, h4, h5, h6⟩ hk hs => ⟨a, cap, a2, cap2, e, h1, h2, h3.keep hk hs, h4, h5, h6.keep hk hs⟩⟩
theorem OwnX.slP {w : World} {base : Nat} {S : Nat → Prop} {ts : List (Tm × List Int)} {v : Value} (h : OwnX PtV w base 157 4 S ts v) :
    ∃ a cap, v = .slice a ts.length cap ∧ ts.length ≤ cap ∧ cap ≤ maxLen ∧ SlP w All' ts a := by
  obtain ⟨a, cap, h1, h2, h3, h4⟩ := h.sl (R := PtC w All') fun t x b o ⟨a, cap, a2, cap2, e, h1, h2, h3, h4, h5, h6⟩ _ hc => by
    subst e
    have c0 := hc 0 (by omega)
    have c1 := hc 1 (by omega)
    have c2 := hc 2 (by omega)
    have c3 := hc 3 (by omega)
    refine ⟨TmC.iff.2 ⟨c0, by rw [add_none]; exact c1, a, cap, by rw [add_none]; exact c2, h1, h2, h3.wide fun _ _ _ => trivial⟩, a2, cap2, by rw [add_none]; exact c3, h4, h5, h6.keep (.ext (Ext.rfl' w)) fun _ _ _ => trivial⟩
  exact ⟨a, cap, h1, h2, h3, Sl.mono h4 (fun _ _ _ => trivial) (Nat.le_refl _) fun _ _ _ _ _ h => h⟩

theorem parts_pos (t : Tm) : 0 < (parts t).length := by rw [parts_eq, List.length_append]; simp
theorem partsL_ge : ∀ us : List Tm, us.length ≤ (partsL us).length
  | [] => by simp
  | x :: xs => by
    have := partsL_ge xs
    have := parts_pos x
    rw [partsL, List.length_append, List.length_cons]; omega

/-- What was let in before, and all that is new. -/
def orNew (S : Nat → Prop) (n : Nat) : Nat → Prop := fun b => S b ∨ n ≤ b
def PartsPostO (w : World) (base : Nat) (Si : Nat → Prop) (ts : List (Tm × List Int)) (r : Option Nat) (e : Ending) (w' : World) : Prop :=
  ∃ v', e = .returned v' ∧ OwnX PtV w' base 157 4 (orNew Si w.heap.size) ts v' ∧ w.grownBy w' r ∧ (v'.ownBlock = r ∨ ∃ g, v'.ownBlock = some g ∧ w.heap.size ≤ g)
def PartsOSpec (t : Tm) : Prop := ∀ (S Si : Nat → Prop) (base : Nat) (l : List (Tm × List Int)) (vl x : Value) (w : World), OwnX PtV w base 157 4 Si l vl → TmV w S t x → base ≤ w.heap.size → (∀ b, S b → b < base) → (∀ b, S b → Si b) → l.length + (parts t).length ≤ 1000000 →
    Calls Try.prog 107 #[vl, x] w (PartsPostO w base Si (l ++ pn t l.length) vl.ownBlock)

set_option maxHeartbeats 1000000 in
theorem partsO_step (t : Tm) (ih : ∀ u ∈ t.us, PartsOSpec u) : PartsOSpec t := by
  rintro S Si base l vl x w hl ⟨a, cap, rfl, h1, h2, h3⟩ hbase hS hSi hsz
  unfold maxLen at h2
  have hvl : ∀ g, vl.ownBlock = some g → g < w.heap.size := fun g hg => (hl.block hg).2
  have HVL := hid hvl; clear hvl
  have HSZ := hid hsz; clear hsz
  have HL := hid hl; clear hl
  have HS := hid hS; clear hS
  have HSi := hid hSi; clear hSi
  go_enter Try.func107, Try.ntmps107
  go_wp2_with fail
  go_loopw [0, 5, 11] (fun v as' i wr => ∃ (k : Nat), k ≤ t.us.length ∧ i = .int .i64 k ∧ OwnX PtV wr base 157 4 (fun b => orNew Si w.heap.size b ∧ some b ≠ as'.ownBlock) (l ++ pnL (t.us.take k) l.length) v ∧ OwnX IntV wr (w.heap.size + 1) 3 1 No' (idxs (t.us.take k) l.length) as' ∧
    (w.alloc (.cells #[.int .i64 t.v, .int .i64 t.f, .slice a t.us.length cap] 27)).grownBy wr vl.ownBlock ∧ (v.ownBlock = vl.ownBlock ∨ ∃ g, v.ownBlock = some g ∧ w.heap.size < g)) (fun _ _ i _ => t.us.length - (intOf i).toNat)
  case atStart => exact ⟨0, by omega, rfl, by simpa [pnL] using (HL.out.ext vok_pt (Ext.one _ _)).wide vok_pt fun b hb _ => ⟨.inl hb, by simp [Value.ownBlock]⟩, by simpa [idxs] using OwnX.nil_ _ _ _ _ _ _, grown_ext (Ext.rfl' _) _, .inl rfl⟩
  case round =>
    obtain ⟨k, hk, rfl, hv, hi, hg, hb⟩ := hrel
    have HB := hid hb; clear hb
    have b2 : wr.cell? ⟨w.heap.size, 2, none⟩ = some (.slice a t.us.length cap) := grown_box hg HVL.out 2
    have hkeep : Keeps S w wr := Keeps.grown (grown_trans (grown_ext (Ext.one _ _) _) (.inl rfl) hg) fun b hb e => by have := (HL.out.block e.symm).1; have := HS.out b hb; omega
    have hgs := hg.size
    simp at hgs
    by_cases hlt : k < t.us.length
    · obtain ⟨b, o, rfl⟩ := h3.some_ (by omega)
      obtain ⟨_, c1, c2, a1, cap1, c3, l1, l2, s1⟩ := SlT.readAt (h3.keep hkeep fun _ h _ => h) hlt
      have IH := hid (ih _ (List.getElem_mem hlt)); clear ih
      have hsz1 : (l ++ pnL (t.us.take k) l.length).length + (parts t.us[k]).length ≤ 1000000 := by
        have := partsL_at hlt
        have := HSZ.out
        rw [parts_eq, List.length_append] at this
        rw [List.length_append, pnL_len]; omega
      have hsz2 : (l ++ pnL (t.us.take (k + 1)) l.length).length ≤ 1000000 := by
        have h9 := hsz1
        rw [pnL_take hlt, ← List.append_assoc, List.length_append, pn_len]
        exact h9
      have hall : ∀ g, (u5 : Value).ownBlock = some g → w.heap.size + 1 ≤ g ∧ g < wr.heap.size := fun g hg => hi.block hg
      have HALL := hid hall; clear hall
      have HSZ1 := hid hsz1; clear hsz1
      have HSZ2 := hid hsz2; clear hsz2
      go_wp2_with fail
      refine (IH.out S _ base _ _ _ _ (hv.ext vok_pt (Ext.one _ _)) ⟨a1, cap1, rfl, l1, l2, s1.ext (Ext.one _ _)⟩ (by simp; omega) HS.out ?hsi HSZ1.out).mono ?_
      case hsi =>
        intro b hb
        have := HS.out b hb
        exact ⟨.inl (HSi.out b hb), fun e => by have := (HALL.out b e.symm).1; omega⟩
      rintro e w' ⟨v', rfl, hv', hg', hb'⟩
      rw [List.append_assoc, List.length_append, ← pnL_take hlt] at hv'
      have HB' := hid hb'; clear hb'
      have HIX := hid (idxs_take hlt l.length)
      have hi2 := (hi.ext vok_int (Ext.one _ _)).grown vok_int hg' ((hi.ext vok_int (Ext.one wr (.cells #[.int .i64 t.us[k].v, .int .i64 t.us[k].f, .slice a1 t.us[k].us.length cap1] 27))).ne_ (hv.ext vok_pt (Ext.one _ _)) (by decide)) (fun b hb => hb.elim)
      have hgw := grown_trans hg (by
        rcases HB.out with e | ⟨g, e, h⟩
        · exact .inl e
        · exact .inr ⟨g, e, by simp; omega⟩) (grown_trans (grown_ext (Ext.one _ (.cells #[.int .i64 t.us[k].v, .int .i64 t.us[k].f, .slice a1 t.us[k].us.length cap1] 27)) _) (.inl rfl) hg')
      have hblk : v'.ownBlock = vl.ownBlock ∨ ∃ g, v'.ownBlock = some g ∧ w.heap.size < g := by
        rcases HB'.out with e | ⟨g, e, h⟩
        · rw [e]; exact HB.out
        · exact .inr ⟨g, e, by simp at h; omega⟩
      have HBLK := hid hblk; clear hblk
      have hgs' := hgw.size
      simp at hgs'
      have hS2 : ∀ b, orNew (fun b => orNew Si w.heap.size b ∧ some b ≠ u5.ownBlock) (wr.heap.size + 1) b → orNew Si w.heap.size b ∧ some b ≠ u5.ownBlock := by
        rintro b (hb | hb)
        · exact hb
        · refine ⟨.inr (by omega), fun e => by have := (HALL.out b e.symm).2; omega⟩
      have hv2 := hv'.wide (S' := fun b => orNew Si w.heap.size b ∧ some b ≠ u5.ownBlock) vok_pt (fun b hb _ => hS2 b (by simpa using hb))
      have HV2 := hid hv2
      clear hv' hv hi hg hg' hS2 hv2
      obtain ⟨va, vc, rfl, vl1, vl2⟩ := HV2.out.slice
      unfold maxLen at vl2
      generalize hLL : l ++ pnL (t.us.take (k + 1)) l.length = L at *
      have HLL := hid hLL; clear hLL
      have hLn := HSZ2.out
      obtain ⟨xs, x1, x2, x3⟩ := hi2
      have X2 := hid x2; clear x2
      have X3 := hid x3; clear x3
      have hxs : xs.length ≤ 1000000 := by
        have h9 := HSZ.out
        have h10 := partsL_at hlt
        rw [parts_eq, List.length_append] at h9
        rw [X2.out, idxs_len, List.length_take]
        have := partsL_ge t.us
        omega
      go_wp2_with (at_builtin; refine wpList_push' ei_int rfl _ _ (by rfl) (.int .i64 (↑L.length - 1)) rfl rfl (by simp [Value.oneCell']) (by rfl) x1 (by rfl) (by omega) (by unfold maxLen; omega) (by omega) ?_; intro g1 cp1 w1 k1 k2 k3 k4)
      go_roundw
      case rel =>
        have hI := OwnX.push (V := IntV) (S := No') vok_int X2.out X3.out (t := ↑L.length - 1) rfl (S' := No') (fun b hb _ => hb.elim) k1 k2 k3
        refine ⟨k + 1, by omega, by go_num, ?_, ?_, ?_, HBLK.out⟩
        · rw [HLL.out]
          have hne := HV2.out.ne_ (show OwnX IntV w' (w.heap.size + 1) 3 1 No' (idxs (t.us.take k) l.length) u5 from ⟨xs, x1, X2.out, X3.out⟩) (by decide)
          refine HV2.out.grown2 vok_pt k2 hne (fun b hb _ => hb.2) (fun b hb hl => ⟨hb.1, fun e => ?_⟩)
          have e' : b = g1 := by simpa [Value.ownBlock] using e
          subst e'
          rcases k3 with k3 | k3
          · exact hb.2 k3.symm
          · omega
        · rw [HIX.out, ← List.length_append, HLL.out]; exact hI
        · exact grown_trans2 hgw (fun g hg => .inr (by have := (HALL.out g hg).1; simp; omega)) k2
      case measure => simp [intOf]; omega
    · obtain rfl : k = t.us.length := by omega
      have b0 : wr.cell? ⟨w.heap.size, 0, none⟩ = some (.int .i64 t.v) := grown_box hg HVL.out 0
      have b1 : wr.cell? ⟨w.heap.size, 1, none⟩ = some (.int .i64 t.f) := grown_box hg HVL.out 1
      clear ih
      have hall : ∀ g, (u5 : Value).ownBlock = some g → w.heap.size + 1 ≤ g ∧ g < wr.heap.size := fun g hg => hi.block hg
      have HALL := hid hall; clear hall
      have hne := hi.ne_ hv (by decide)
      have HNE := hid hne; clear hne
      have hsl := hi.slI
      rw [List.take_length] at hsl
      have HV3 := hid (hv.wide vok_pt (S' := orNew Si w.heap.size) fun b hb _ => hb.1)
      have hvb : ∀ g, (u0 : Value).ownBlock = some g → base ≤ g := fun g hg => (hv.block hg).1
      have HVB := hid hvb; clear hvb
      clear hv hi
      obtain ⟨ia, ic, rfl, i1, i2, i3⟩ := hsl
      have hy : PtV wr (fun b => S b ∨ (Value.slice ia (idxs t.us l.length).length ic).ownBlock = some b) (t, idxs t.us l.length) (.agg #[.int .i64 t.v, .int .i64 t.f, .slice a t.us.length cap, .slice ia (idxs t.us l.length).length ic]) :=
        ⟨a, cap, ia, ic, rfl, h1, h2, (h3.keep hkeep fun _ h _ => h).wide fun b hb _ => .inl hb, i1, i2, i3.keep (.ext (Ext.rfl' _)) fun b hb _ => .inr hb⟩
      have HY := hid hy; clear hy
      obtain ⟨xs, x1, x2, x3⟩ := HV3.out
      have X2 := hid x2; clear x2
      have X3 := hid x3; clear x3
      have hxs : xs.length ≤ 1000000 - 1 := by
        have := HSZ.out
        rw [parts_eq, List.length_append] at this
        rw [X2.out, List.length_append, List.take_length, pnL_len]
        simp at this
        omega
      generalize hil : (idxs t.us l.length).length = il at *
      have HIL := hid hil; clear hil
      go_wp2_with (at_builtin; refine wpList_push' ei_part rfl _ _ (by rfl) (.agg #[.int .i64 t.v, .int .i64 t.f, .slice a t.us.length cap, .slice ia il ic]) rfl rfl (by simp [Value.oneCell']) (by rfl) x1 (by rfl) (by omega) (by unfold maxLen; omega) (by omega) ?_; intro g1 cp1 w1 k1 k2 k3 k4)
      go_ret
      have hO := OwnX.push vok_pt X2.out X3.out HY.out (fun b hb hl => ?hS) k1 k2 k3
      case hS =>
        rcases hb with hb | hb
        · exact ⟨.inl (HSi.out b hb), fun e => by have := HVB.out b e.symm; have := HS.out b hb; omega⟩
        · refine ⟨.inr (by have := (HALL.out b hb).1; omega), fun e => ?_⟩
          rcases HNE.out with h | h
          · exact h (hb.trans e)
          · rw [h] at hb; cases hb
      refine ⟨_, rfl, ?_, ?_, ?_⟩
      · rw [pn_eq, ← List.append_assoc]
        rw [List.take_length] at hO
        exact hO
      · refine grown_trans (grown_trans (grown_ext (Ext.one _ _) _) (.inl rfl) hg) ?_ k2
        rcases HB.out with e | ⟨g, e, h⟩
        · exact .inl e
        · exact .inr ⟨g, e, by omega⟩
      · rcases k3 with k3 | k3
        · rcases HB.out with e | ⟨g, e, h⟩
          · left; rw [← e, k3]; rfl
          · right; exact ⟨g1, rfl, by rw [e] at k3; cases k3; omega⟩
        · right; exact ⟨g1, rfl, by omega⟩
theorem partsO_any (t : Tm) : PartsOSpec t := Tm.ind partsO_step t
end Go.Proofs.Ytmeekpinkfpnhaa

namespace Go.Proofs.Ytmeekpinkfpnhaa
open Go.RowKit

/-! ### the combinatorial part -/
section
variable {pops : Array Oper} {gd : Nat → Option Tmp} {Yd : Nat → Value → Act → Prop} {Fin : Act → Prop}
/-- Whatever order is picked from here on: each operation yields a value. -/
def AnyY (pops : Array Oper) (gd : Nat → Option Tmp) (Yd : Nat → Value → Act → Prop) (Fin : Act → Prop) : Nat → Array Bool → Act → Prop
  | 0, listed, a => Region.ready .any pops listed = [] ∧ Fin a
  | f + 1, listed, a => (Region.ready .any pops listed = [] → Fin a) ∧ ∀ i ∈ Region.ready .any pops listed, ∃ v, Yd i v a ∧ AnyY pops gd Yd Fin f (listed.setIfInBounds i true) (a.put (gd i) v)

theorem anyY_first (hgd : ∀ i o, pops[i]? = some o → gd i = none ∨ gd i = o.dst)
    (hloc : ∀ i o, pops[i]? = some o → ∀ v a d u, (∀ t, d = some t → t ∉ o.looksAt pops) → (Yd i v (a.put d u) ↔ Yd i v a)) {i : Nat} {oi : Oper} {v : Value} (hi : pops[i]? = some oi) :
    ∀ (f : Nat) (listed : Array Bool) (a : Act), (∀ j oj, pops[j]? = some oj → j ≠ i → listed.getD j true = false → (∀ e ∈ oj.after, Region.binds .any e = true → e.on ≠ i) → oi.apart pops oj = true) →
      i ∈ Region.ready .any pops listed → Yd i v a → AnyY pops gd Yd Fin f (listed.setIfInBounds i true) (a.put (gd i) v) → AnyY pops gd Yd Fin (f + 1) listed a := by
  have hmem : ∀ {i o t}, pops[i]? = some o → gd i = some t → o.dst = some t := by
    intro i o t ho ht
    rcases hgd i o ho with h | h
    · rw [h] at ht; cases ht
    · rw [← h]; exact ht
  intro f
  induction f with
  | zero =>
    intro listed a _ hr hy H
    refine ⟨fun h => (by rw [h] at hr; cases hr), fun j hj => ?_⟩
    by_cases hji : j = i
    · subst hji; exact ⟨v, hy, H⟩
    · have := ready_mono hj hji
      rw [H.1] at this
      cases this
  | succ f ih =>
    intro listed a hfree hr hy H
    refine ⟨fun h => (by rw [h] at hr; cases hr), fun j hj => ?_⟩
    by_cases hji : j = i
    · subst hji; exact ⟨v, hy, H⟩
    · obtain ⟨u, hu, hn⟩ := H.2 j (ready_mono hj hji)
      obtain ⟨hjun, oj, hoj, hall⟩ := mem_ready.1 hj
      have hnot : ∀ e ∈ oj.after, Region.binds .any e = true → e.on ≠ i := fun e he hb heq => by
        have h1 := hall e he hb
        rw [heq, getD_both (mem_ready.1 hr).1] at h1
        cases h1
      obtain ⟨p1, p2, p3⟩ := Oper.apart_spec (hfree j oj hoj hji hjun hnot)
      refine ⟨u, (hloc j oj hoj u a (gd i) v (fun t ht => p1 t (hmem hi ht))).1 hu, ih (listed.setIfInBounds j true) (a.put (gd j) u) ?_ (ready_mono hr (Ne.symm hji))
        ((hloc i oi hi v a (gd j) u (fun t ht => p3 t (hmem hoj ht))).2 hy) ?_⟩
      · intro k ok hk hki hun hno
        refine hfree k ok hk hki ?_ hno
        by_cases hjk : j = k
        · subst hjk; exact hjun
        · rw [getD_set_ne true hjk] at hun; exact hun
      · rw [Array.setIfInBounds_comm _ _ hji, ← Act.put_comm a v u (fun t ht h => p2 t (hmem hi ht) (hmem hoj h))]
        exact hn

/-- The order of the text. -/
def TextY (gd : Nat → Option Tmp) (Yd : Nat → Value → Act → Prop) (Fin : Act → Prop) : Nat → Nat → Act → Prop
  | 0, _, a => Fin a
  | r + 1, k, a => ∃ v, Yd k v a ∧ TextY gd Yd Fin r (k + 1) (a.put (gd k) v)
theorem anyY_lex (hgd : ∀ i o, pops[i]? = some o → gd i = none ∨ gd i = o.dst)
    (hloc : ∀ i o, pops[i]? = some o → ∀ v a d u, (∀ t, d = some t → t ∉ o.looksAt pops) → (Yd i v (a.put d u) ↔ Yd i v a)) :
    ∀ (r k : Nat) (listed : Array Bool) (a : Act), Region.lexFrom .any pops r k listed = true → TextY gd Yd Fin r k a → AnyY pops gd Yd Fin r listed a
  | 0, _, _, _, hB, h => ⟨by simpa [Region.lexFrom] using hB, h⟩
  | r + 1, k, listed, a, hB, h => by
    simp only [Region.lexFrom, Bool.and_eq_true] at hB
    obtain ⟨⟨hr, hf⟩, hB'⟩ := hB
    have hr' : k ∈ Region.ready .any pops listed := by simpa using hr
    obtain ⟨_, o, ho, _⟩ := mem_ready.1 hr'
    obtain ⟨v, hy, hK⟩ := h
    exact anyY_first hgd hloc ho r listed a (Region.free_spec ho hf) hr' hy (anyY_lex hgd hloc r (k + 1) _ _ hB' hK)
end

/-! ### operations that make something new -/
/-- What comes, lo and hi being how many blocks there were ahead of it and behind it. -/
def freshUpon (P : Program) (Φ : Value → Nat → Nat → World → Prop) (w : World) : Result Next → Prop
  | .ok (.value v) w' => Φ v w.heap.size w'.heap.size w' ∧ Ext w w'
  | .ok (.enter f args) w' => w' = w ∧ Calls P f args w fun e w'' => ∃ v, e = .returned v ∧ Φ v w.heap.size w''.heap.size w'' ∧ Ext w w''
  | _ => False
def FreshAt (P : Program) (C : World → Prop) (Φ : Value → Nat → Nat → World → Prop) (o : Oper) (a : Act) : Prop := ∀ w, C w → freshUpon P Φ w ((execOp a.eval o).run P w)

/-- The frame with what came anew, so far as it has come. -/
def over (F : List (Nat × Tmp)) (V : Nat → Value) (listed : Array Bool) (a : Act) : Act := F.foldl (fun a p => if listed.getD p.1 false = true then a.put (some p.2) (V p.1) else a) a

section
variable {P : Program} {pops : Array Oper} {V : Nat → Value} {listed : Array Bool}
theorem over_exec (o : Oper) (hs : ∀ cs b, o.op ≠ .select cs b) : ∀ (F : List (Nat × Tmp)) (a : Act), (∀ p ∈ F, p.2 ∉ o.looksAt pops) → execOp (over F V listed a).eval o = execOp a.eval o
  | [], _, _ => rfl
  | p :: F, a, h => by
    unfold over
    rw [List.foldl_cons]
    have h2 := over_exec o hs F (if listed.getD p.1 false = true then a.put (some p.2) (V p.1) else a) (fun q hq => h q (by simp [hq]))
    unfold over at h2
    rw [h2]
    split
    · exact execOp_put o hs a _ _ fun d hd => by cases hd; exact h p (by simp)
    · rfl
theorem over_wanted (o : Oper) : ∀ (F : List (Nat × Tmp)) (a : Act), (∀ p ∈ F, p.2 ∉ o.looksAt pops) → Region.wanted o (yielded pops (over F V listed a).tmps) = Region.wanted o (yielded pops a.tmps)
  | [], _, _ => rfl
  | p :: F, a, h => by
    unfold over
    rw [List.foldl_cons]
    have h2 := over_wanted o F (if listed.getD p.1 false = true then a.put (some p.2) (V p.1) else a) (fun q hq => h q (by simp [hq]))
    unfold over at h2
    rw [h2]
    split
    · exact wanted_put o a _ _ fun d hd => by cases hd; exact h p (by simp)
    · rfl
theorem over_put (d : Option Tmp) (v : Value) : ∀ (F : List (Nat × Tmp)) (a : Act), (∀ p ∈ F, d ≠ some p.2) → (over F V listed a).put d v = over F V listed (a.put d v)
  | [], _, _ => rfl
  | p :: F, a, h => by
    unfold over
    rw [List.foldl_cons, List.foldl_cons]
    have h2 := over_put d v F (if listed.getD p.1 false = true then a.put (some p.2) (V p.1) else a) (fun q hq => h q (by simp [hq]))
    unfold over at h2
    rw [h2]
    congr 1
    split
    · exact Act.put_comm a _ _ fun t ht e => h p (by simp) (by rw [e, ht])
    · rfl
theorem over_congr {V' : Nat → Value} {listed' : Array Bool} : ∀ (F : List (Nat × Tmp)) (a : Act), (∀ p ∈ F, V p.1 = V' p.1 ∧ listed.getD p.1 false = listed'.getD p.1 false) → over F V listed a = over F V' listed' a
  | [], _, _ => rfl
  | p :: F, a, h => by
    unfold over
    rw [List.foldl_cons, List.foldl_cons, (h p (by simp)).1, (h p (by simp)).2]
    exact over_congr F _ fun q hq => h q (by simp [hq])
theorem over_new {i : Nat} {t : Tmp} {v : Value} (hlt : i < listed.size) (hun : listed.getD i false = false) : ∀ (F : List (Nat × Tmp)) (a : Act), (F.map (·.1)).Nodup → (F.map (·.2)).Nodup → (i, t) ∈ F →
    (over F V listed a).put (some t) v = over F (fun j => if j = i then v else V j) (listed.setIfInBounds i true) a
  | [], _, _, _, h => by cases h
  | p :: F, a, h1, h2, h => by
    simp only [List.map_cons, List.nodup_cons] at h1 h2
    by_cases hp : p = (i, t)
    · subst hp
      have e1 : over ((i, t) :: F) V listed a = over F V listed a := by
        unfold over
        rw [List.foldl_cons, if_neg (by simp only [hun]; exact Bool.false_ne_true)]
      have e2 : over ((i, t) :: F) (fun j => if j = i then v else V j) (listed.setIfInBounds i true) a = over F (fun j => if j = i then v else V j) (listed.setIfInBounds i true) (a.put (some t) v) := by
        unfold over
        rw [List.foldl_cons, if_pos (by simp [hlt])]
        simp
      rw [e1, e2, over_put _ _ F a (fun q hq e => h2.1 (by cases e; exact List.mem_map.2 ⟨q, hq, rfl⟩))]
      refine over_congr F _ fun q hq => ?_
      have hne : q.1 ≠ i := fun e => h1.1 (List.mem_map.2 ⟨q, hq, e⟩)
      exact ⟨by simp [hne], (getD_set_ne false (Ne.symm hne)).symm⟩
    · have hF : (i, t) ∈ F := by
        rcases List.mem_cons.1 h with h | h
        · exact absurd h.symm hp
        · exact h
      have hne : p.1 ≠ i := fun e => h1.1 (by rw [e]; exact List.mem_map.2 ⟨_, hF, rfl⟩)
      have h3 := over_new (v := v) hlt hun F (if listed.getD p.1 false = true then a.put (some p.2) (V p.1) else a) h1.2 h2.2 hF
      unfold over at h3 ⊢
      rw [List.foldl_cons, List.foldl_cons, h3]
      congr 1
      rw [getD_set_ne false (Ne.symm hne)]
      simp [hne]
end

/-! ### the two together -/
def frOf (F : List (Nat × Tmp)) (i : Nat) : Bool := F.any (·.1 == i)
theorem frOf_mem {F : List (Nat × Tmp)} {i : Nat} (h : frOf F i = true) : ∃ t, (i, t) ∈ F := by
  obtain ⟨p, hp, he⟩ := List.any_eq_true.1 h
  have : p.1 = i := by simpa using he
  exact ⟨p.2, by rw [← this]; exact hp⟩
theorem frOf_of {F : List (Nat × Tmp)} {p : Nat × Tmp} (h : p ∈ F) : frOf F p.1 = true := List.any_eq_true.2 ⟨p, h, by simp⟩
def gdOf (pops : Array Oper) (F : List (Nat × Tmp)) (i : Nat) : Option Tmp := if frOf F i then none else (pops[i]?).bind (·.dst)
def YdOf (P : Program) (C : World → Prop) (pops : Array Oper) (F : List (Nat × Tmp)) (Φ : Nat → Value → Nat → Nat → World → Prop) (i : Nat) (v : Value) (a : Act) : Prop :=
  match pops[i]? with
  | none => True
  | some o => if frOf F i then FreshAt P C (Φ i) o a else YieldsIn P pops C o v a

/-- The walk of the order of the text; what is new is not looked at. -/
def wpMix (P : Program) (pops : Array Oper) (C : World → Prop) (F : List (Nat × Tmp)) (Φ : Nat → Value → Nat → Nat → World → Prop) (Fin : Act → Prop) : List Oper → Nat → Act → Prop
  | [], _, a => Fin a
  | o :: l, k, a => if frOf F k then FreshAt P C (Φ k) o a ∧ wpMix P pops C F Φ Fin l (k + 1) a
    else if Region.wanted o (yielded pops a.tmps) then o.quiet P a C (wpMix P pops C F Φ Fin l (k + 1)) else wpMix P pops C F Φ Fin l (k + 1) (a.put o.dst undef)
section
variable {P : Program} {pops : Array Oper} {C : World → Prop} {F : List (Nat × Tmp)} {Φ : Nat → Value → Nat → Nat → World → Prop} {Fin : Act → Prop}
theorem wpMix_nil {k : Nat} {a : Act} (h : Fin a) : wpMix P pops C F Φ Fin [] k a := h
theorem wpMix_want {o : Oper} {l : List Oper} {k : Nat} {a : Act} (hf : frOf F k = false) (hw : Region.wanted o (yielded pops a.tmps) = true) (h : ∀ K : Act → Prop, (∀ a, wpMix P pops C F Φ Fin l (k + 1) a → K a) → o.quiet P a C K) : wpMix P pops C F Φ Fin (o :: l) k a := by
  unfold wpMix
  rw [if_neg (by simp [hf]), if_pos hw]
  exact h _ fun _ h => h
theorem wpMix_skip {o : Oper} {l : List Oper} {k : Nat} {a : Act} (hf : frOf F k = false) (hw : Region.wanted o (yielded pops a.tmps) = false) (h : wpMix P pops C F Φ Fin l (k + 1) (a.put o.dst undef)) : wpMix P pops C F Φ Fin (o :: l) k a := by
  unfold wpMix
  rw [if_neg (by simp [hf]), if_neg (by simp [hw])]
  exact h
theorem wpMix_fresh {o : Oper} {l : List Oper} {k : Nat} {a : Act} (hf : frOf F k = true) (h1 : ∀ w, C w → freshUpon P (Φ k) w ((execOp a.eval o).run P w)) (h2 : wpMix P pops C F Φ Fin l (k + 1) a) : wpMix P pops C F Φ Fin (o :: l) k a := by
  unfold wpMix
  rw [if_pos hf]
  exact ⟨h1, h2⟩
theorem textY_of_mix : ∀ (l : List Oper) (k : Nat) (a : Act), (∀ j, l[j]? = pops[k + j]?) → wpMix P pops C F Φ Fin l k a → TextY (gdOf pops F) (YdOf P C pops F Φ) Fin l.length k a
  | [], _, _, _, h => h
  | o :: l, k, a, hl, h => by
    have h0 : pops[k]? = some o := by simpa using (hl 0).symm
    have hrec : ∀ a, wpMix P pops C F Φ Fin l (k + 1) a → TextY (gdOf pops F) (YdOf P C pops F Φ) Fin l.length (k + 1) a := fun a => textY_of_mix l (k + 1) a (fun j => by have := hl (j + 1); simpa [Nat.add_assoc, Nat.add_comm 1 j] using this)
    simp only [List.length_cons, TextY]
    unfold wpMix at h
    by_cases hf : frOf F k = true
    · rw [if_pos hf] at h
      refine ⟨undef, ?_, ?_⟩
      · simp only [YdOf, h0, hf, if_true]; exact h.1
      · have : gdOf pops F k = none := by simp [gdOf, hf]
        rw [this]
        exact hrec _ h.2
    · rw [if_neg hf] at h
      have hg : gdOf pops F k = o.dst := by simp [gdOf, hf, h0]
      by_cases hw : Region.wanted o (yielded pops a.tmps) = true
      · rw [if_pos hw] at h
        obtain ⟨v, h1, h2⟩ := h
        refine ⟨v, ?_, by rw [hg]; exact hrec _ h2⟩
        simp only [YdOf, h0, hf, Bool.false_eq_true, if_false]
        exact .inl ⟨hw, h1⟩
      · rw [if_neg hw] at h
        refine ⟨undef, ?_, by rw [hg]; exact hrec _ h⟩
        simp only [YdOf, h0, hf, Bool.false_eq_true, if_false]
        exact .inr ⟨by simpa using hw, rfl⟩
end

/-- What makes something new lies apart from all else ahead of the tail. -/
def sepB (pops : Array Oper) (F : List (Nat × Tmp)) : Bool :=
  ((List.range pops.size).all fun i => match pops[i]? with
    | some o => F.all fun p => !(o.looksAt pops).contains p.2 && (p.1 == i || o.dst != some p.2)
    | none => true) &&
  (F.all fun p => match pops[p.1]? with
    | some o => o.dst == some p.2 && o.guard.isNone
    | none => false) && decide ((F.map (·.1)).Nodup) && decide ((F.map (·.2)).Nodup)

section
variable {P : Program} {ops pops : Array Oper} {Q : Exit → Act → World → Prop} {n : Nat} {w0 : World} {F : List (Nat × Tmp)} {Φ : Nat → Value → Nat → Nat → World → Prop} {Fin : Act → Prop}

/-- What has come anew: each in blocks of its own. -/
structure Came (w0 : World) (F : List (Nat × Tmp)) (Φ : Nat → Value → Nat → Nat → World → Prop) (listed : Nat → Bool) (V : Nat → Value) (lo hi : Nat → Nat) (w : World) : Prop where
  each : ∀ p ∈ F, listed p.1 = true → Φ p.1 (V p.1) (lo p.1) (hi p.1) w ∧ w0.heap.size ≤ lo p.1 ∧ hi p.1 ≤ w.heap.size
  apart : ∀ p ∈ F, ∀ q ∈ F, listed p.1 = true → listed q.1 = true → p.1 ≠ q.1 → hi p.1 ≤ lo q.1 ∨ hi q.1 ≤ lo p.1

theorem wpAny_fresh (hn : n ≤ ops.size) (hpn : pops.size = n) (hp : ∀ i, i < n → pops[i]? = ops[i]?) (hback : backB ops = true) (hsink : Region.sinkB .any ops n = true) (hchain : Region.chainB .any ops n = true)
    (hnlt : n < ops.size) (hsel : Region.noSelect pops = true) (hsep : sepB pops F = true) (hpl : ∀ i o, pops[i]? = some o → frOf F i = false → plainOp o.op = true) (hΦ : ∀ i v l h w w', Φ i v l h w → Ext w w' → Φ i v l h w')
    (hQ : ∀ a V lo hi w, Ext w0 w → Came w0 F Φ (fun _ => true) V lo hi w → Fin a → wpList P ops Q (ops.toList.drop n) (F.foldl (fun a p => a.put (some p.2) (V p.1)) a) w) :
    ∀ (fuel : Nat) (listed : Array Bool) (a : Act) (V : Nat → Value) (lo hi : Nat → Nat) (w : World), Ext w0 w → HeadInv .any ops n listed → Came w0 F Φ (fun i => listed.getD i false) V lo hi w →
      AnyY pops (gdOf pops F) (YdOf P (Ext w0) pops F Φ) Fin fuel listed a → wpAny P .any ops Q (fuel + (ops.size - n)) listed (over F V listed a) w := by
  simp only [sepB, Bool.and_eq_true, decide_eq_true_eq] at hsep
  obtain ⟨⟨⟨hs1, hs2⟩, hs3⟩, hs4⟩ := hsep
  have hlook : ∀ i o, pops[i]? = some o → ∀ p ∈ F, p.2 ∉ o.looksAt pops ∧ (p.1 ≠ i → o.dst ≠ some p.2) := by
    intro i o ho p hpF
    have hlt : i < pops.size := (Array.getElem?_eq_some_iff.1 ho).1
    have h1 := List.all_eq_true.1 hs1 i (List.mem_range.2 hlt)
    rw [ho] at h1
    have h2 := List.all_eq_true.1 h1 p hpF
    simp only [Bool.and_eq_true, Bool.or_eq_true, beq_iff_eq, bne_iff_ne, Bool.not_eq_true', ne_eq] at h2
    refine ⟨fun hc => ?_, fun hne => ?_⟩
    · have := h2.1
      rw [List.contains_iff_mem.2 hc] at this
      cases this
    · rcases h2.2 with h | h
      · exact absurd h hne
      · exact h
  have hF : ∀ p ∈ F, ∃ o, pops[p.1]? = some o ∧ o.dst = some p.2 ∧ o.guard = none := by
    intro p hpF
    have h1 := List.all_eq_true.1 hs2 p hpF
    cases ho : pops[p.1]? with
    | none => rw [ho] at h1; cases h1
    | some o =>
      rw [ho] at h1
      simp only [Bool.and_eq_true, beq_iff_eq, Option.isNone_iff_eq_none] at h1
      exact ⟨o, rfl, h1.1, h1.2⟩
  have hrd : ∀ listed i, i < n → (i ∈ Region.ready .any pops listed ↔ i ∈ Region.ready .any ops listed) := by
    intro listed i hi
    rw [mem_ready, mem_ready, hp i hi]
  have hlt : ∀ listed i, i ∈ Region.ready .any pops listed → i < n := by
    intro listed i hi
    obtain ⟨_, o, ho, _⟩ := mem_ready.1 hi
    have := (Array.getElem?_eq_some_iff.1 ho).1
    omega
  have hdone : ∀ (fuel : Nat) (listed : Array Bool) (a : Act) (V : Nat → Value) (lo hi : Nat → Nat) (w : World), ops.size - n ≤ fuel → Ext w0 w → HeadInv .any ops n listed → Came w0 F Φ (fun i => listed.getD i false) V lo hi w →
      Region.ready .any pops listed = [] → Fin a → wpAny P .any ops Q fuel listed (over F V listed a) w := by
    intro fuel listed a V lo hi w hf hC inv hcm hr hq
    have hall : ∀ i, i < n → listed.getD i false = true := by
      intro i
      induction i using Nat.strongRecOn with
      | _ i ih =>
        intro hi
        by_cases hl : listed.getD i false = true
        · exact hl
        · exfalso
          have hio : ops[i]? = some (ops[i]'(by omega)) := Array.getElem?_eq_getElem (by omega)
          have : i ∈ Region.ready .any pops listed := (hrd listed i hi).2 (mem_ready.2 ⟨getD_in (by rw [inv.size]; omega) (by simpa using hl), _, hio, fun e he hb => by
            have := backB_spec hback hio e he hb
            exact ih _ this (by omega)⟩)
          rw [hr] at this
          cases this
    have hFn : ∀ p ∈ F, p.1 < n := fun p hpF => by
      obtain ⟨o, ho, _⟩ := hF p hpF
      have := (Array.getElem?_eq_some_iff.1 ho).1
      omega
    have e : over F V listed a = F.foldl (fun a p => a.put (some p.2) (V p.1)) a := by
      have : ∀ (G : List (Nat × Tmp)) (a : Act), (∀ p ∈ G, p.1 < n) → over G V listed a = G.foldl (fun a p => a.put (some p.2) (V p.1)) a := by
        intro G
        induction G with
        | nil => intro a _; rfl
        | cons p G ih =>
          intro a h
          unfold over
          rw [List.foldl_cons, List.foldl_cons, if_pos (hall _ (h p (by simp)))]
          exact ih _ fun q hq => h q (by simp [hq])
      exact this F a hFn
    rw [e]
    refine wpAny_tail hback hchain (ops.size - n) n fuel listed _ w (ops.toList.drop n) (by omega) (Nat.le_refl _) hf inv.size hall inv.tail (fun j => by simp) (hQ a V lo hi w hC ⟨fun p hpF _ => hcm.each p hpF (hall _ (hFn p hpF)), fun p hpF q hqF _ _ => hcm.apart p hpF q hqF (hall _ (hFn p hpF)) (hall _ (hFn q hqF))⟩ hq)
  intro fuel
  induction fuel with
  | zero =>
    intro listed a V lo hi w hC inv hcm h
    exact hdone _ listed a V lo hi w (by omega) hC inv hcm h.1 h.2
  | succ fuel ih =>
    intro listed a V lo hi w hC inv hcm h
    by_cases hr : Region.ready .any pops listed = []
    · exact hdone _ listed a V lo hi w (by omega) hC inv hcm hr (h.1 hr)
    · obtain ⟨i0, hi0⟩ := List.exists_mem_of_ne_nil _ hr
      have hun := (mem_ready.1 ((hrd listed i0 (hlt _ _ hi0)).1 hi0)).1
      have htail : ∀ j ∈ Region.ready .any ops listed, j < n := by
        intro j hj
        rcases Nat.lt_or_ge j n with h | h
        · exact h
        · exact absurd hj (tail_waits hsink hchain hnlt inv _ i0 rfl (hlt _ _ hi0) hun j h)
      rw [show fuel + 1 + (ops.size - n) = (fuel + (ops.size - n)) + 1 by omega]
      refine ⟨fun h0 => (by have := (hrd listed i0 (hlt _ _ hi0)).1 hi0; rw [h0] at this; cases this), fun i hir => ?_⟩
      have hin := htail i hir
      have hiP := (hrd listed i hin).2 hir
      obtain ⟨v, hy, hnx⟩ := h.2 i hiP
      obtain ⟨hiu, o, ho, _⟩ := mem_ready.1 hiP
      have hns : ∀ cs b, o.op ≠ .select cs b := fun cs b => Region.noSelect_spec hsel i o cs b ho
      have hlo := hlook i o ho
      have hex := over_exec (pops := pops) (V := V) (listed := listed) o hns F a (fun p hpF => (hlo p hpF).1)
      have hsz : i < listed.size := by rw [inv.size]; omega
      unfold wpOp
      rw [← hp i hin, ho]
      simp only
      by_cases hf : frOf F i = true
      · obtain ⟨t, ht⟩ := frOf_mem hf
        obtain ⟨o', ho', hd, hg⟩ := hF _ ht
        obtain rfl : o' = o := Option.some.inj (ho'.symm.trans ho)
        have hgd : gdOf pops F i = none := by simp [gdOf, hf]
        rw [hgd] at hnx
        simp only [YdOf, ho, hf, if_true] at hy
        rw [if_pos (by simp [Region.wanted, hg])]
        left
        have hu := hy w hC
        rw [← hex] at hu
        have hgo : ∀ u w', Φ i u w.heap.size w'.heap.size w' → Ext w w' → wpAny P .any ops Q (fuel + (ops.size - n)) (listed.setIfInBounds i true) ((over F V listed a).put o'.dst u) w' := by
          intro u w' hphi hx
          rw [hd, over_new hsz (getD_both hiu) F a hs3 hs4 ht]
          refine ih _ a _ (fun j => if j = i then w.heap.size else lo j) (fun j => if j = i then w'.heap.size else hi j) w' (hC.step hx) (inv.set hir hin) ⟨?_, ?_⟩ hnx
          · intro p hpF hl
            by_cases hpi : p.1 = i
            · simp only [hpi, if_true]
              exact ⟨hphi, hC.size, Nat.le_refl _⟩
            · simp only [hpi, if_false]
              rw [getD_set_ne false (Ne.symm hpi)] at hl
              obtain ⟨q1, q2, q3⟩ := hcm.each p hpF hl
              exact ⟨hΦ _ _ _ _ _ _ q1 hx, q2, Nat.le_trans q3 hx.size⟩
          · intro p hpF q hqF hl hl' hne
            by_cases hpi : p.1 = i
            · have hqi : q.1 ≠ i := fun e => hne (hpi.trans e.symm)
              simp only [hpi, hqi, if_true, if_false]
              rw [getD_set_ne false (Ne.symm hqi)] at hl'
              exact .inr (hcm.each q hqF hl').2.2
            · by_cases hqi : q.1 = i
              · simp only [hpi, hqi, if_true, if_false]
                rw [getD_set_ne false (Ne.symm hpi)] at hl
                exact .inl (hcm.each p hpF hl).2.2
              · simp only [hpi, hqi, if_false]
                rw [getD_set_ne false (Ne.symm hpi)] at hl
                rw [getD_set_ne false (Ne.symm hqi)] at hl'
                exact hcm.apart p hpF q hqF hl hl' hne
        unfold Oper.wp
        generalize (execOp (over F V listed a).eval o').run P w = r at *
        cases r with
        | ok x w' =>
          cases x <;> simp only [freshUpon] at hu <;> simp only [Oper.upon]
          case value u => exact hgo u w' hu.1 hu.2
          case enter f args =>
            obtain ⟨e1, hc⟩ := hu
            rw [e1]
            exact hc.mono fun e w'' ⟨u, he, h1, h2⟩ => by subst he; exact hgo u w'' h1 h2
        | halt x w' => simp only [freshUpon] at hu
      · have hgd : gdOf pops F i = o.dst := by simp [gdOf, hf, ho]
        rw [hgd] at hnx
        simp only [YdOf, ho, hf, Bool.false_eq_true, if_false] at hy
        have hne : ∀ p ∈ F, o.dst ≠ some p.2 := fun p hpF => (hlo p hpF).2 fun e => hf (by rw [← e]; exact frOf_of hpF)
        have hrec : ∀ w', Ext w0 w' → Came w0 F Φ (fun i => listed.getD i false) V lo hi w' → wpAny P .any ops Q (fuel + (ops.size - n)) (listed.setIfInBounds i true) ((over F V listed a).put o.dst v) w' := by
          intro w' hC' hcm'
          rw [over_put o.dst v F a hne]
          have e : over F V listed (a.put o.dst v) = over F V (listed.setIfInBounds i true) (a.put o.dst v) := over_congr F _ fun p hpF => ⟨rfl, by
            have : p.1 ≠ i := fun e => hf (by rw [← e]; exact frOf_of hpF)
            rw [getD_set_ne false (Ne.symm this)]⟩
          rw [e]
          refine ih _ _ V lo hi w' hC' (inv.set hir hin) ⟨fun p hpF hl => ?_, fun p hpF q hqF hl hl' => ?_⟩ hnx
          · rw [getD_set_ne false (fun e => hf (by rw [e]; exact frOf_of hpF))] at hl
            exact hcm'.each p hpF hl
          · rw [getD_set_ne false (fun e => hf (by rw [e]; exact frOf_of hpF))] at hl
            rw [getD_set_ne false (fun e => hf (by rw [e]; exact frOf_of hqF))] at hl'
            exact hcm'.apart p hpF q hqF hl hl'
        have hcmx : ∀ w', Ext w w' → Came w0 F Φ (fun i => listed.getD i false) V lo hi w' := fun w' hx =>
          ⟨fun p hpF hl => by
            obtain ⟨q1, q2, q3⟩ := hcm.each p hpF hl
            exact ⟨hΦ _ _ _ _ _ _ q1 hx, q2, Nat.le_trans q3 hx.size⟩, hcm.apart⟩
        have hwt : Region.wanted o (yielded ops (over F V listed a).tmps) = Region.wanted o (yielded pops a.tmps) := by
          rw [← over_wanted (pops := pops) (V := V) (listed := listed) o F a (fun p hpF => (hlo p hpF).1)]
          unfold Region.wanted
          cases hg : o.guard with
          | none => rfl
          | some g =>
            obtain ⟨j, want⟩ := g
            simp only
            have hj : j < n := by have := backB_guard hback ((hp i hin).symm.trans ho) hg; omega
            unfold yielded
            rw [hp j hj]
        rw [hwt]
        rcases hy with ⟨hw, hv⟩ | ⟨hw, rfl⟩
        · rw [if_pos hw]
          left
          have hu := hv w hC
          unfold Oper.quietAt at hu
          rw [← hex] at hu
          unfold Oper.wp
          generalize hrun : (execOp (over F V listed a).eval o).run P w = r at *
          cases r with
          | ok x w' =>
            cases x <;> simp only [Oper.quietUpon] at hu <;> simp only [Oper.upon]
            case value u =>
              obtain ⟨e1, e2⟩ := hu
              rw [e1, e2]
              exact hrec w hC hcm
            case skip =>
              obtain ⟨e1, e2⟩ := hu
              rw [e1, ← e2]
              exact hrec w hC hcm
            case enter f args => exact absurd hrun (noEnter (hpl i o ho (by simpa using hf)))
          | halt x w' => simp only [Oper.quietUpon] at hu
        · rw [if_neg (by simp [hw])]
          exact hrec w hC hcm
end

def freshB (l : List Oper) (n : Nat) (F : List (Nat × Tmp)) : Bool :=
  Region.noSelect (l.take n).toArray && Region.lexFrom .any (l.take n).toArray n 0 (Array.replicate l.length false) && backB l.toArray && Region.sinkB .any l.toArray n && Region.chainB .any l.toArray n && decide (n < l.length) &&
    sepB (l.take n).toArray F && ((l.take n).zipIdx.all fun p => frOf F p.2 || plainOp p.1.op)

/-- The first n operations only read, or (those of F: number and slot) make something new of which Φ tells; behind them, in whatever world they leave, the rest, one after the other. -/
theorem wp_region_fresh {P : Program} {id : Nat} {Q : Exit → Act → World → Prop} {a : Act} {w : World} {l : List Oper} (n : Nat) (F : List (Nat × Tmp)) (Φ : Nat → Value → Nat → Nat → World → Prop) (hm : P.follows .mixedOrders = true)
    (hB : freshB l n F = true) (hΦ : ∀ i v l h w w', Φ i v l h w → Ext w w' → Φ i v l h w')
    (h : ∀ (I : Type) [Nonempty I] (W : I → World), (∀ i, Ext w (W i)) → wpMix P (l.take n).toArray (fun w' => ∃ i, w' = W i) F Φ
      (fun a' => ∀ V lo hi w', Ext w w' → Came w F Φ (fun _ => true) V lo hi w' → wpList P l.toArray Q (l.drop n) (F.foldl (fun a p => a.put (some p.2) (V p.1)) a') w') (l.take n) 0 a) : (Code.region id l.toArray true).wp P Q a w := by
  simp only [freshB, Bool.and_eq_true, decide_eq_true_eq] at hB
  obtain ⟨⟨⟨⟨⟨⟨⟨h1, h2⟩, h3⟩, h4⟩, h5⟩, h6⟩, h7⟩, h8⟩ := hB
  haveI : Nonempty { w' // Ext w w' } := ⟨⟨w, Ext.rfl' w⟩⟩
  have hl := h { w' // Ext w w' } (fun i => i.1) (fun i => i.2)
  have hCe : (fun w' => ∃ i : { w' // Ext w w' }, w' = i.1) = Ext w := funext fun w' => propext ⟨fun ⟨i, e⟩ => e ▸ i.2, fun h => ⟨⟨w', h⟩, rfl⟩⟩
  rw [hCe] at hl
  have hlen : (l.take n).length = n := by rw [List.length_take]; omega
  have htx := textY_of_mix (l.take n) 0 a (by simp) hl
  rw [hlen] at htx
  have hgd : ∀ i o, (l.take n).toArray[i]? = some o → gdOf (l.take n).toArray F i = none ∨ gdOf (l.take n).toArray F i = o.dst := by
    intro i o ho
    unfold gdOf
    split
    · exact .inl rfl
    · right; rw [ho]; rfl
  have hloc : ∀ i o, (l.take n).toArray[i]? = some o → ∀ v a d u, (∀ t, d = some t → t ∉ o.looksAt (l.take n).toArray) → (YdOf P (Ext w) (l.take n).toArray F Φ i v (a.put d u) ↔ YdOf P (Ext w) (l.take n).toArray F Φ i v a) := by
    intro i o ho v a d u hd
    have hns : ∀ cs b, o.op ≠ .select cs b := fun cs b => Region.noSelect_spec h1 i o cs b ho
    have e1 := execOp_put (ops := (l.take n).toArray) o hns a d u hd
    have e2 := wanted_put (ops := (l.take n).toArray) o a d u hd
    simp only [YdOf, ho]
    split
    · unfold FreshAt; rw [e1]
    · exact ⟨fun hy => hy.of_same e1.symm e2.symm, fun hy => hy.of_same e1 e2⟩
  have hany := anyY_lex hgd hloc n 0 (Array.replicate l.length false) a h2 htx
  refine wp_region_any hm ?_
  have := wpAny_fresh (P := P) (ops := l.toArray) (pops := (l.take n).toArray) (Q := Q) (n := n) (w0 := w) (F := F) (Φ := Φ) (by simp; omega) (by simpa using hlen) (fun i hi => by simp [hi]) h3 h4 h5 (by simpa using h6) h1 h7
    (fun i o ho hf => by
      have hlt : i < n := by have := (Array.getElem?_eq_some_iff.1 ho).1; simp at this; omega
      have hmem : (o, i) ∈ (l.take n).zipIdx := List.mem_zipIdx_iff_getElem?.2 (by simpa using ho)
      have h9 := List.all_eq_true.1 h8 _ hmem
      simpa [hf] using h9)
    hΦ (fun a V lo hi w' hx hc hf => by simpa using hf V lo hi w' hx hc) n (Array.replicate l.length false) a (fun _ => undef) (fun _ => 0) (fun _ => 0) _ (Ext.draw (Ext.rfl' w))
    ⟨by simp, fun j oj hj hl => (by rw [getD_replicate_false] at hl; cases hl), fun t ht ht' => (by simp at ht'; simp [ht'])⟩
    ⟨fun p _ hl => (by rw [getD_replicate_false] at hl; cases hl), fun p _ q _ hl => (by rw [getD_replicate_false] at hl; cases hl)⟩ hany
  have e : n + (l.toArray.size - n) = l.toArray.size := by simp; omega
  rw [e] at this
  have e2 : over F (fun _ => undef) (Array.replicate l.length false) a = a := by
    have : ∀ (G : List (Nat × Tmp)) (a : Act), over G (fun _ => undef) (Array.replicate l.length false) a = a := by
      intro G
      induction G with
      | nil => intro a; rfl
      | cons p G ih =>
        intro a
        unfold over
        rw [List.foldl_cons, getD_replicate_false, if_neg Bool.false_ne_true]
        exact ih a
    exact this F a
  rw [e2] at this
  simpa using this
end Go.Proofs.Ytmeekpinkfpnhaa

namespace Go.Proofs.Ytmeekpinkfpnhaa
open Go.RowKit

theorem PtC.keep {w w' : World} {S S' : Nat → Prop} (hk : Keeps S w w') (hs : ∀ b, S b → b < w.heap.size → S' b) {p : Tm × List Int} {ad : Addr} (h1 : S ad.block) (h2 : ad.block < w.heap.size) (h : PtC w S p ad) : PtC w' S' p ad := by
  obtain ⟨h3, a, cap, h4, h5, h6, h7⟩ := h
  exact ⟨TmC.keep hk hs _ _ h1 h2 h3, a, cap, (hk.cell (ad := ad.add 3) h1 h2).trans h4, h5, h6, h7.keep hk hs⟩
theorem SlP.keep {w w' : World} {S S' : Nat → Prop} {ps : List (Tm × List Int)} {a : Option Addr} (h : SlP w S ps a) (hk : Keeps S w w') (hs : ∀ b, S b → b < w.heap.size → S' b) : SlP w' S' ps a :=
  Sl.mono h hs hk.1 fun _ _ _ h1 h2 h3 => PtC.keep hk hs h1 h2 h3
theorem SlP.wide {w : World} {S : Nat → Prop} (S' : Nat → Prop) {ps : List (Tm × List Int)} {a : Option Addr} (h : SlP w S ps a) (hs : ∀ b, S b → b < w.heap.size → S' b) : SlP w S' ps a := h.keep (.ext (Ext.rfl' w)) hs
theorem OwnX.slP' {w : World} {base : Nat} {S S' : Nat → Prop} {ts : List (Tm × List Int)} {v : Value} (h : OwnX PtV w base 157 4 S ts v) (hS : ∀ b, S b → b < w.heap.size → S' b) (hv : ∀ b, v.ownBlock = some b → S' b) :
    ∃ a cap, v = .slice a ts.length cap ∧ ts.length ≤ cap ∧ cap ≤ maxLen ∧ SlP w S' ts a := by
  obtain ⟨a, cap, h1, h2, h3, h4⟩ := h.sl (R := PtC w S') fun t x b o ⟨a, cap, a2, cap2, e, h1, h2, h3, h4, h5, h6⟩ _ hc => by
    subst e
    have c0 := hc 0 (by omega)
    have c1 := hc 1 (by omega)
    have c2 := hc 2 (by omega)
    have c3 := hc 3 (by omega)
    exact ⟨TmC.iff.2 ⟨c0, by rw [add_none]; exact c1, a, cap, by rw [add_none]; exact c2, h1, h2, h3.wide fun b hb hl => hS b hb.1 hl⟩, a2, cap2, by rw [add_none]; exact c3, h4, h5, h6.keep (.ext (Ext.rfl' w)) fun b hb hl => hS b hb.1 hl⟩
  exact ⟨a, cap, h1, h2, h3, Sl.mono h4 (fun _ hb _ => hv _ hb) (Nat.le_refl _) fun _ _ _ _ _ h => h⟩

theorem MapF.made (w : World) : MapF (w.alloc (.map #[] 0)) w.heap.size (fun _ => false) := ⟨[], MapV.made _ _, fun _ => rfl⟩

/-- What the first region makes. -/
def abPhi (n0 : Nat) (s t : Tm) (i : Nat) (v : Value) (lo hi : Nat) (w : World) : Prop :=
  (i = 1 → ∃ a cap, v = .slice a (pn s 0).length cap ∧ (pn s 0).length ≤ cap ∧ cap ≤ maxLen ∧ SlP w (fun b => b < n0 ∨ lo ≤ b ∧ b < hi) (pn s 0) a) ∧
  (i = 3 → ∃ a cap, v = .slice a (pn t 0).length cap ∧ (pn t 0).length ≤ cap ∧ cap ≤ maxLen ∧ SlP w (fun b => b < n0 ∨ lo ≤ b ∧ b < hi) (pn t 0) a) ∧
  (i = 4 ∨ i = 5 → v = .map (some lo) ∧ MapF w lo (fun _ => false) ∧ lo < hi)
theorem abPhi_ext {n0 : Nat} {s t : Tm} (i : Nat) (v : Value) (lo hi : Nat) (w w' : World) (h : abPhi n0 s t i v lo hi w) (hx : Ext w w') : abPhi n0 s t i v lo hi w' := by
  obtain ⟨h1, h2, h3⟩ := h
  refine ⟨fun e => ?_, fun e => ?_, fun e => ?_⟩
  · obtain ⟨a, cap, q1, q2, q3, q4⟩ := h1 e
    exact ⟨a, cap, q1, q2, q3, q4.ext hx⟩
  · obtain ⟨a, cap, q1, q2, q3, q4⟩ := h2 e
    exact ⟨a, cap, q1, q2, q3, q4.ext hx⟩
  · obtain ⟨q1, q2, q3⟩ := h3 e
    exact ⟨q1, q2.ext hx, q3⟩
theorem abParts (t : Tm) (S : Nat → Prop) (x : Value) (w : World) (n0 : Nat) (hx : TmV w S t x) (hS : ∀ b, S b → b < n0) (hn0 : n0 ≤ w.heap.size) (hn : (parts t).length ≤ 1000000) :
    Calls Try.prog 107 #[.slice none 0 0, x] w fun e w' => ∃ v, e = .returned v ∧ (∃ a cap, v = .slice a (pn t 0).length cap ∧ (pn t 0).length ≤ cap ∧ cap ≤ maxLen ∧ SlP w' (fun b => b < n0 ∨ w.heap.size ≤ b ∧ b < w'.heap.size) (pn t 0) a) ∧ Ext w w' := by
  refine (partsO_any t S (fun b => b < n0) w.heap.size [] (.slice none 0 0) x w (OwnX.nil_ _ _ _ _ _ _) hx (Nat.le_refl _) (fun b hb => by have := hS b hb; omega) hS (by simpa using hn)).mono ?_
  rintro e w' ⟨v, rfl, h1, h2, h3⟩
  refine ⟨v, rfl, ?_, h2.os, h2.tape, h2.output, h2.size, fun k hk => h2.block k hk (by simp [Value.ownBlock])⟩
  exact OwnX.slP' h1 (fun b hb hl => by
    rcases hb with hb | hb
    · exact .inl hb
    · exact .inr ⟨hb, hl⟩) (fun b hb => .inr (h1.block hb))

set_option maxRecDepth 100000 in
set_option maxHeartbeats 2000000 in
theorem above_any (S : Nat → Prop) (s t : Tm) (xs xt : Value) (w : World) (hs : TmV w S s xs) (ht : TmV w S t xt) (hS : ∀ b, S b → b < w.heap.size) (har : Arit (pn s 0) (pn t 0)) (hn : (parts s).length ≤ 1000000) (hn' : (parts t).length ≤ 1000000) :
    Calls Try.prog 62 #[xs, xt] w fun e w' => e = .returned (.bool (gt s t)) ∧ Ext w w' := by
  obtain ⟨a, cap, rfl, l1, l2, l3⟩ := hs
  obtain ⟨a', cap', rfl, l1', l2', l3'⟩ := ht
  have HS := hid hS; clear hS
  have HN := hid hn; clear hn
  have HN' := hid hn'; clear hn'
  have HA := hid har; clear har
  have hmm := @run_makeMap Try.prog
  go_enter Try.func62, Try.ntmps62
  go_upto_region 1 with (fail)
  refine wp_region_fresh 6 [(1, 9), (3, 11), (4, 12), (5, 13)] (abPhi w.heap.size s t) (by kernel_rfl) (by kernel_rfl) abPhi_ext ?_
  intro I _ W hE
  have b0 : ∀ i, (W i).cell? ⟨w.heap.size, 0, none⟩ = some (.int .i64 s.v) := mild_cell hE (by go_simp)
  have b1 : ∀ i, (W i).cell? ⟨w.heap.size, 1, none⟩ = some (.int .i64 s.f) := mild_cell hE (by go_simp)
  have b2 : ∀ i, (W i).cell? ⟨w.heap.size, 2, none⟩ = some (.slice a s.us.length cap) := mild_cell hE (by go_simp)
  have c0 : ∀ i, (W i).cell? ⟨w.heap.size + 1, 0, none⟩ = some (.int .i64 t.v) := mild_cell hE (by go_simp)
  have c1 : ∀ i, (W i).cell? ⟨w.heap.size + 1, 1, none⟩ = some (.int .i64 t.f) := mild_cell hE (by go_simp)
  have c2 : ∀ i, (W i).cell? ⟨w.heap.size + 1, 2, none⟩ = some (.slice a' t.us.length cap') := mild_cell hE (by go_simp)
  refine wpMix_want (by rfl) (by rfl) ?_; intro K hK; go_big_quiet_op; go_big_quiet_on
  refine wpMix_fresh (by rfl) ?_ ?_
  · rintro _ ⟨i, rfl⟩
    go_simp
    refine ⟨rfl, (abParts s S _ (W i) w.heap.size (TmV.ext ⟨a, cap, rfl, l1, l2, l3⟩ ((Ext.two _ _ _).step (hE i))) HS.out (by have := (hE i).size; simp at this; omega) HN.out).mono ?_⟩
    rintro e w' ⟨v, rfl, h1, h2⟩
    exact ⟨v, rfl, ⟨fun _ => h1, fun h => absurd h (by decide), fun h => absurd h (by decide)⟩, h2⟩
  refine wpMix_want (by rfl) (by rfl) ?_; intro K hK; go_big_quiet_op; go_big_quiet_on
  refine wpMix_fresh (by rfl) ?_ ?_
  · rintro _ ⟨i, rfl⟩
    go_simp
    refine ⟨rfl, (abParts t S _ (W i) w.heap.size (TmV.ext ⟨a', cap', rfl, l1', l2', l3'⟩ ((Ext.two _ _ _).step (hE i))) HS.out (by have := (hE i).size; simp at this; omega) HN'.out).mono ?_⟩
    rintro e w' ⟨v, rfl, h1, h2⟩
    exact ⟨v, rfl, ⟨fun h => absurd h (by decide), fun _ => h1, fun h => absurd h (by decide)⟩, h2⟩
  refine wpMix_fresh (by rfl) ?_ ?_
  · rintro _ ⟨i, rfl⟩
    go_simp
    exact ⟨⟨fun h => absurd h (by decide), fun h => absurd h (by decide), fun _ => ⟨rfl, MapF.made _, by simp⟩⟩, Ext.one _ _⟩
  refine wpMix_fresh (by rfl) ?_ ?_
  · rintro _ ⟨i, rfl⟩
    go_simp
    exact ⟨⟨fun h => absurd h (by decide), fun h => absurd h (by decide), fun _ => ⟨rfl, MapF.made _, by simp⟩⟩, Ext.one _ _⟩
  refine wpMix_nil ?_
  intro V lo hi wa hxa hcame
  clear b0 b1 b2 c0 c1 c2
  obtain ⟨⟨g1, -, -⟩, o1, o1'⟩ := hcame.each (1, 9) (by simp) rfl
  obtain ⟨⟨-, g3, -⟩, o3, o3'⟩ := hcame.each (3, 11) (by simp) rfl
  obtain ⟨⟨-, -, g4⟩, o4, o4'⟩ := hcame.each (4, 12) (by simp) rfl
  obtain ⟨⟨-, -, g5⟩, o5, o5'⟩ := hcame.each (5, 13) (by simp) rfl
  have p1 := hcame.apart (1, 9) (by simp) (4, 12) (by simp) rfl rfl (by decide)
  have p2 := hcame.apart (1, 9) (by simp) (5, 13) (by simp) rfl rfl (by decide)
  have p3 := hcame.apart (3, 11) (by simp) (4, 12) (by simp) rfl rfl (by decide)
  have p4 := hcame.apart (3, 11) (by simp) (5, 13) (by simp) rfl rfl (by decide)
  have p5 := hcame.apart (4, 12) (by simp) (5, 13) (by simp) rfl rfl (by decide)
  clear hcame
  obtain ⟨sa, sc, e1, s1, s2, s3⟩ := g1 rfl
  obtain ⟨ta, tc, e3, t1, t2, t3⟩ := g3 rfl
  obtain ⟨e4, m4, n4⟩ := g4 (.inl rfl)
  obtain ⟨e5, m5, n5⟩ := g5 (.inr rfl)
  clear g1 g3 g4 g5
  simp only [List.foldl_cons, List.foldl_nil, e1, e3, e4, e5, List.drop_succ_cons, List.drop_zero]
  clear e1 e3 e4 e5
  simp at o1 o3 o4 o5 o1' o3' o4' o5'
  generalize lo 4 = bs at *
  generalize lo 5 = ba at *
  generalize hi 4 = bs' at *
  generalize hi 5 = ba' at *
  generalize lo 1 = x1 at *
  generalize hi 1 = x1' at *
  generalize lo 3 = x3 at *
  generalize hi 3 = x3' at *
  have hbs : bs ≠ ba ∧ bs < wa.heap.size ∧ ba < wa.heap.size ∧ w.heap.size ≤ bs ∧ w.heap.size ≤ ba := by omega
  have s3 := s3.wide (fun b => b ≠ bs ∧ b ≠ ba) fun b hb _ => by omega
  have t3 := t3.wide (fun b => b ≠ bs ∧ b ≠ ba) fun b hb _ => by omega
  clear p1 p2 p3 p4 p5 o1 o1' o3 o3' o4 o4' o5 o5'
  have hpn := hid (show (pn s 0).length = (parts s).length from pn_len s 0)
  have hpn' := hid (show (pn t 0).length = (parts t).length from pn_len t 0)
  have hlw := hxa.size
  simp at hlw
  have hx0 := hid (((Ext.two _ _ _).step hxa : Ext w wa))
  clear hxa hE
  generalize hS0 : pn s 0 = ps at *
  generalize hT0 : pn t 0 = pt at *
  have HS0 := hid hS0; clear hS0
  have HT0 := hid hT0; clear hT0
  have s2' := s2
  have t2' := t2
  unfold maxLen at s2' t2'
  go_wp2_with fail
  go_loopw [21] (fun i wr => ∃ (k : Nat) (f h : Int × Int → Bool), k ≤ ps.length ∧ i = .int .i64 k ∧ Known ps pt f h (lexlt k 0) ∧ MapF wr bs f ∧ MapF wr ba h ∧
    Upd (fun b => b = bs ∨ b = ba) (wa.alloc (.cells #[.slice sa ps.length sc, .slice ta pt.length tc, .map (some bs), .map (some ba)] 134)) wr) (fun i _ => ps.length - (intOf i).toNat)
  case atStart => exact ⟨0, _, _, by omega, rfl, fun a b _ _ hd => by unfold lexlt at hd; omega, m4.ext (Ext.one _ _), m5.ext (Ext.one _ _), Upd.of_ext (Ext.rfl' _)⟩
  case round =>
    obtain ⟨k, f, h, hk, rfl, hK, hf, hh, hu⟩ := hrel
    have HK := hid hK; clear hK
    have q0 : wr.cell? ⟨wa.heap.size, 0, none⟩ = some (.slice sa ps.length sc) := hu.some_ (by simp; omega) (by go_simp)
    have q1 : wr.cell? ⟨wa.heap.size, 1, none⟩ = some (.slice ta pt.length tc) := hu.some_ (by simp; omega) (by go_simp)
    have q3 : wr.cell? ⟨wa.heap.size, 3, none⟩ = some (.map (some ba)) := hu.some_ (by simp; omega) (by go_simp)
    by_cases hlt : k < ps.length
    · have F := hid hf; clear hf
      have H := hid hh; clear hh
      go_wp2_with fail
      have hf := F.out
      have hh := H.out
      clear F H q0 q1 q3
      obtain ⟨wo, rfl⟩ : ∃ wo : World, wo = wr := ⟨_, rfl⟩
      go_loopw [29] (fun j wr => ∃ (m : Nat) (f h : Int × Int → Bool), m ≤ pt.length ∧ j = .int .i64 m ∧ Hid (Known ps pt f h (lexlt k m)) ∧ MapF wr bs f ∧ MapF wr ba h ∧
        Upd (fun b => b = bs ∨ b = ba) (wa.alloc (.cells #[.slice sa ps.length sc, .slice ta pt.length tc, .map (some bs), .map (some ba)] 134)) wr) (fun i _ => pt.length - (intOf i).toNat)
      case atStart => exact ⟨0, f, h, by omega, rfl, HK, hf, hh, hu⟩
      case round =>
        clear hf hh hu HK
        clear f h
        obtain ⟨m, f, h, hm, rfl, HK, hf, hh, hu⟩ := hrel
        have q0 : wr.cell? ⟨wa.heap.size, 0, none⟩ = some (.slice sa ps.length sc) := hu.some_ (by simp; omega) (by go_simp)
        have q1 : wr.cell? ⟨wa.heap.size, 1, none⟩ = some (.slice ta pt.length tc) := hu.some_ (by simp; omega) (by go_simp)
        have q2 : wr.cell? ⟨wa.heap.size, 2, none⟩ = some (.map (some bs)) := hu.some_ (by simp; omega) (by go_simp)
        have q3 : wr.cell? ⟨wa.heap.size, 3, none⟩ = some (.map (some ba)) := hu.some_ (by simp; omega) (by go_simp)
        by_cases hlt' : m < pt.length
        · have hkp : Keeps (fun b => b ≠ bs ∧ b ≠ ba) wa wr := ⟨by have := hu.size; simp at this; omega, fun b hb hl => by
            rw [hu.block b (by simp; omega) (by simp; exact hb)]
            exact (Ext.one wa _).block b hl⟩
          have S3 := s3.keep hkp fun _ h _ => h
          have T3 := t3.keep hkp fun _ h _ => h
          have hone := one_any _ _ ps pt k m hlt hlt' sa ta sc tc wa.heap.size bs ba f h wr q0 q1 q2 q3 hf hh hbs.1 s1 s2 S3 t1 t2 T3 (fun h1 h2 h3 => Nat.le_of_eq (HA.out _ (List.getElem_mem hlt) _ (List.getElem_mem hlt') h1 h2 h3))
          have hstep := HK.out.step hlt hlt' (by rw [← HS0.out]; exact pn_well0 s k (by rw [HS0.out]; exact hlt)) (by rw [← HT0.out]; exact pn_well0 t m (by rw [HT0.out]; exact hlt'))
          have HST := hid hstep
          have HONE := hid hone
          have HU := hid hu
          clear hone hstep hf hh hu S3 T3 hkp HK
          generalize setF f ((k : Int), (m : Int)) (eqV f ps[k] pt[m]) = f' at *
          generalize setF h ((k : Int), (m : Int)) (grP f' h ps[k] pt[m] k m) = h' at *
          clear q0 q1 q2 q3
          go_wp2_with fail
          refine HONE.out.mono ?_
          rintro e w' ⟨rfl, y1, y2, y3⟩
          go_wp2_with fail
          go_roundw
          case rel => exact ⟨m + 1, f', h', by omega, by go_num, HST, y2, y3, HU.out.trans y1⟩
          case measure => simp [intOf]; omega
        · obtain rfl : m = pt.length := by omega
          have F := hid hf; clear hf
          have H := hid hh; clear hh
          have HU := hid hu; clear hu
          go_wp2_with fail
          go_roundw
          case rel => exact ⟨k + 1, f, h, by omega, by go_num, fun a b u v hd h1 h2 => HK.out a b u v (by
            have hb : b < pt.length := by
              rcases hp : pt[b]? with _ | p
              · rw [hp] at h2; cases h2
              · exact (List.getElem?_eq_some_iff.1 hp).1
            unfold lexlt at *; omega) h1 h2, F.out, H.out, HU.out⟩
          case measure => simp [intOf]; omega
    · obtain rfl : k = ps.length := by omega
      have F := hid hf; clear hf
      have HU := hid hu; clear hu
      have hv : h ((ps.length : Int) - 1, (pt.length : Int) - 1) = gt s t := by
        rw [← HS0.out, ← HT0.out]
        refine Known.last fun a b u v _ h1 h2 => HK.out a b u v (.inl ?_) (by rw [← HS0.out]; exact h1) (by rw [← HT0.out]; exact h2)
        rcases hp : (pn s 0)[a]? with _ | p
        · rw [hp] at h1; cases h1
        · rw [← HS0.out]; exact (List.getElem?_eq_some_iff.1 hp).1
      have HV := hid hv; clear hv
      go_upto_region 11 with (fail)
      refine wp_region_mild (by kernel_rfl) (by kernel_rfl) ?_
      intro I _ W hE hC
      have f0 := mild_cell hE q0
      have f1 := mild_cell hE q1
      have f3 := mild_cell hE q3
      have f5 := mild_map hE hh ((ps.length : Int) - 1) ((pt.length : Int) - 1)
      have hle1 : 1 ≤ ps.length := by rw [hpn.out]; exact parts_pos s
      have hle2 : 1 ≤ pt.length := by rw [hpn'.out]; exact parts_pos t
      repeat (go_big_quiet_step (fail))
      refine wpQuiet_nil ?_
      rintro _ ⟨i1, rfl⟩
      go_wp2_with fail
      go_ret
      exact ⟨ret_bool HV.out, Ext.step (Below.trans (hx0.out.new _) (HU.out.below (by simp; omega) (by rintro b (rfl | rfl) <;> omega)) : Ext w wr) (hE i1)⟩
end Go.Proofs.Ytmeekpinkfpnhaa

namespace Go.Proofs.Ytmeekpinkfpnhaa

def shift (d : Nat) (l : List Int) : List Int := l.map (· + (d : Int))
theorem shift_len (d : Nat) (l : List Int) : (shift d l).length = l.length := by simp [shift]
theorem idxs_shift (d : Nat) : ∀ (us : List Tm) (n : Nat), idxs us (n + d) = shift d (idxs us n)
  | [], _ => rfl
  | x :: xs, n => by
    have := idxs_shift d xs (n + (parts x).length)
    rw [idxs, idxs, shift, List.map_cons, ← shift, ← this]
    congr 1
    · omega
    · congr 1; omega
mutual
theorem pn_shift (d : Nat) : ∀ (t : Tm) (n : Nat), (pn t (n + d)).map (·.2) = ((pn t n).map (·.2)).map (shift d)
  | .mk v f us, n => by
    rw [pn, pn, List.map_append, List.map_append, List.map_append, pnL_shift d us n]
    simp [idxs_shift]
theorem pnL_shift (d : Nat) : ∀ (us : List Tm) (n : Nat), (pnL us (n + d)).map (·.2) = ((pnL us n).map (·.2)).map (shift d)
  | [], _ => rfl
  | x :: xs, n => by
    have := pnL_shift d xs (n + (parts x).length)
    rw [pnL, pnL, List.map_append, List.map_append, List.map_append, pn_shift d x n, ← this]
    congr 3; omega
end
theorem mid_set (d : Nat) {L : List (List Int)} {m : Nat} (hm : m < L.length) : ((L.take m).map (shift d) ++ L.drop m).set m (shift d L[m]) = (L.take (m + 1)).map (shift d) ++ L.drop (m + 1) := by
  have e : m - ((L.take m).map (shift d)).length = 0 := by simp; omega
  rw [List.set_append_right _ _ (by simp; omega), e, List.drop_eq_getElem_cons hm, List.set_cons_zero, List.take_succ_eq_append_getElem hm, List.map_append, List.append_assoc]
  rfl
/-- superposeref.ArgsOf -/
def argsOf (t : Tm) : List (List Int) := (pn t 0).map (·.2)
def argsL (us : List Tm) : List (List Int) := (pnL us 0).map (·.2)
theorem argsOf_eq (t : Tm) : argsOf t = argsL t.us ++ [idxs t.us 0] := by rw [argsOf, pn_eq, List.map_append]; rfl
theorem argsOf_len (t : Tm) : (argsOf t).length = (parts t).length := by rw [argsOf, List.length_map, pn_len]
theorem argsL_len (us : List Tm) : (argsL us).length = (partsL us).length := by rw [argsL, List.length_map, pnL_len]
theorem argsL_take {us : List Tm} {k : Nat} (hk : k < us.length) : argsL (us.take (k + 1)) = argsL (us.take k) ++ (argsOf us[k]).map (shift (argsL (us.take k)).length) := by
  have h := pn_shift (pnL (us.take k) 0).length us[k] 0
  rw [argsL, pnL_take hk, List.map_append, h]
  simp [argsL, argsOf]
theorem idxs_take0 {us : List Tm} {k : Nat} (hk : k < us.length) : idxs (us.take (k + 1)) 0 = idxs (us.take k) 0 ++ [((argsL (us.take (k + 1))).length : Int) - 1] := by
  rw [idxs_take hk, argsL, List.length_map]; simp
theorem argsOf_lt (t : Tm) : ∀ l ∈ argsOf t, ∀ x ∈ l, 0 ≤ x ∧ x < (parts t).length := by
  intro l hl x hx
  obtain ⟨p, hp, rfl⟩ := List.mem_map.1 hl
  obtain ⟨i, hi, rfl⟩ := List.getElem_of_mem hp
  obtain ⟨h1, h2⟩ := pn_well0 t i hi _ (List.getElem?_eq_getElem hi)
  obtain ⟨m, hm, rfl⟩ := List.getElem_of_mem hx
  obtain ⟨j, h3, h4, _⟩ := h2 m _ (List.getElem?_eq_getElem (by omega))
  rw [List.getElem?_eq_getElem hm] at h3
  simp only [Option.some.injEq] at h3
  rw [h3]
  rw [pn_len] at hi
  omega
theorem argsOf_at (t : Tm) {i : Nat} (hi : i < (argsOf t).length) : (argsOf t)[i].length = ((parts t)[i]'(by rw [← argsOf_len]; exact hi)).us.length := by
  have hi' : i < (pn t 0).length := by simpa [argsOf] using hi
  have h1 := (pn_well0 t i hi' _ (List.getElem?_eq_getElem hi')).1
  have e : (parts t)[i]'(by rw [← argsOf_len]; exact hi) = (pn t 0)[i].1 := by simp [← pn_fst t 0]
  rw [e, ← h1]
  simp [argsOf]
theorem us_le (us : List Tm) : us.length ≤ (partsL us).length := by
  induction us with
  | nil => simp
  | cons x xs ih =>
    have h := tsz_pos x
    unfold tsz at h
    rw [partsL, List.length_append, List.length_cons]; omega
mutual
theorem parts_us : ∀ (t : Tm), ∀ u ∈ parts t, u.us.length ≤ (parts t).length
  | .mk v f us, u, h => by
    rw [parts] at h ⊢
    rw [List.length_append]
    rcases List.mem_append.1 h with h | h
    · have := partsL_us us u h; omega
    · rw [List.mem_singleton.1 h, Tm.us]
      have := us_le us; omega
theorem partsL_us : ∀ (us : List Tm), ∀ u ∈ partsL us, u.us.length ≤ (partsL us).length
  | x :: xs, u, h => by
    rw [partsL] at h ⊢
    rw [List.length_append]
    rcases List.mem_append.1 h with h | h
    · have := parts_us x u h; omega
    · have := partsL_us xs u h; omega
end
theorem argsOf_small (t : Tm) : ∀ l ∈ argsOf t, l.length ≤ (argsOf t).length := by
  intro l hl
  obtain ⟨i, hi, rfl⟩ := List.getElem_of_mem hl
  rw [argsOf_at t hi]
  have h1 := argsOf_len t
  have h2 := parts_us t _ (List.getElem_mem (by rw [← h1]; exact hi : i < (parts t).length))
  omega
end Go.Proofs.Ytmeekpinkfpnhaa

namespace Go.Proofs.Ytmeekpinkfpnhaa
open Go.RowKit

theorem grown_set (w : World) (g i : Nat) (y : Value) : w.grownBy (w.setCell ⟨g, i, none⟩ y) (some g) :=
  ⟨rfl, rfl, rfl, by simp, fun k _ hk => Below.heap_setCell _ _ _ _ fun e => hk (by rw [e])⟩
theorem flat1 : ∀ {xs : List Value}, (∀ x ∈ xs, x.cells = #[x]) → xs.flatMap (·.cells.toList) = xs
  | [], _ => rfl
  | x :: xs, h => by rw [List.flatMap_cons, h x (by simp), flat1 fun y hy => h y (by simp [hy])]; rfl
theorem Own.set {w : World} {base e g n cap i : Nat} {xs : List Value} {y : Value} (h : Own w base e 1 xs (.slice (some ⟨g, 0, none⟩) n cap)) (h1 : ∀ x ∈ xs, x.cells = #[x]) (_hi : i < xs.length) (hy : y.cells = #[y]) :
    Own (w.setCell ⟨g, i, none⟩ y) base e 1 (xs.set i y) (.slice (some ⟨g, 0, none⟩) n cap) := by
  obtain ⟨⟨h2, h3⟩, h4⟩ := h
  have h1' : ∀ x ∈ xs.set i y, x.cells = #[x] := fun x hx => by
    rcases List.mem_or_eq_of_mem_set hx with hx | rfl
    · exact h1 x hx
    · exact hy
  refine ⟨?_, fun x hx => by rw [h1' x hx]; rfl⟩
  rw [flat1 h1]  at h2 h3
  rw [flat1 h1']
  rcases h3 with ⟨h3, _⟩ | ⟨g', cap', cur, hv, hb, hh, h5, h6, h7, h8⟩
  · cases h3
  · obtain ⟨rfl, rfl, rfl⟩ : g = g' ∧ n = xs.length ∧ cap = cap' := by simpa using hv
    refine ⟨by simpa using h2, .inr ⟨g, cap, cur.setIfInBounds i y, by simp, hb, heap_setCell_same _ _ _ _ _ _ hh, by simpa using h5, h6, by simpa using h7, ?_⟩⟩
    rw [Array.toList_setIfInBounds, List.take_set, List.length_set, h8]

section
variable {α : Type} {V : World → (Nat → Prop) → α → Value → Prop} {w : World} {base e : Nat} {S S' : Nat → Prop} {ts : List α}
/-- A place is written. -/
theorem OwnX.set (hV : VOk V) (hV1 : ∀ {w S t x}, V w S t x → x.cells = #[x]) {g n cap i : Nat} {t : α} {y : Value} (h : OwnX V w base e 1 S ts (.slice (some ⟨g, 0, none⟩) n cap)) (hi : i < ts.length) (hy : V w S' t y) (hS : ∀ b, S' b → b < w.heap.size → S b ∧ b ≠ g) :
    OwnX V (w.setCell ⟨g, i, none⟩ y) base e 1 S (ts.set i t) (.slice (some ⟨g, 0, none⟩) n cap) := by
  obtain ⟨xs, h1, h2, h3⟩ := h
  have hx1 : ∀ x ∈ xs, x.cells = #[x] := fun x hx => by
    obtain ⟨j, hj, rfl⟩ := List.getElem_of_mem hx
    exact hV1 (h3 j (by omega) hj)
  have hk : Keeps (fun b => S b ∧ some b ≠ (Value.slice (some ⟨g, 0, none⟩) n cap).ownBlock) w (w.setCell ⟨g, i, none⟩ y) := Keeps.grown (grown_set _ _ _ _) fun b hb => hb.2
  refine ⟨xs.set i y, h1.set hx1 (by omega) (hV1 hy), by simp [h2], fun j hj hj' => ?_⟩
  by_cases hij : i = j
  · subst hij
    simp only [List.getElem_set_self]
    exact hV.keep (hV.keep hy (.ext (Ext.rfl' w)) fun b hb hl => ⟨(hS b hb hl).1, fun e => (hS b hb hl).2 (by simpa [Value.ownBlock] using e)⟩) hk fun _ h _ => h
  · simp only [List.getElem_set_ne hij]
    exact hV.keep (h3 j (by simpa using hj) (by simpa using hj')) hk fun _ h _ => h
end

theorem OwnX.thawed {α : Type} {V : World → (Nat → Prop) → α → Value → Prop} {w : World} {base e sz : Nat} {S : Nat → Prop} {ts : List α} {g n cap : Nat} (h : OwnX V w base e sz S ts (.slice (some ⟨g, 0, none⟩) n cap)) (j : Nat) : w.frozen? ⟨g, j, none⟩ = false := by
  obtain ⟨xs, h1, _⟩ := h
  rcases h1.1.2 with ⟨h2, _⟩ | ⟨g', cap', cur, hv, hb, hh, _⟩
  · cases h2
  · obtain ⟨rfl, rfl⟩ : g = g' ∧ cap = cap' := by
      simp only [Value.slice.injEq, Option.some.injEq, Addr.mk.injEq] at hv
      exact ⟨hv.1.1, hv.2.2⟩
    exact frozen_of_row _ _ _ _ _ hh

/-- 'append(s, x..)', both of the call's own. -/
theorem wpList_cat {P : Program} {t e sz bytes : Nat} (hE : ElemOk P t e sz bytes) {ops : Array Oper} {rest : List Oper} {o : Oper} {a : Act} {Q : Exit → Act → World → Prop} (hgd : o.guard = none) (s x : Operand)
    (ho : o.op = .call { callee := .builtin .append, args := #[s, x], argTypes := #[t, t] }) {w : World} {base base' : Nat} {v u : Value} {xs ys : List Value} (hs : a.eval s = v) (hx : a.eval x = u) (hown : Own w base e sz xs v) (hown' : Own w base' e sz ys u) (hn : 0 < ys.length)
    (h1 : ∀ y ∈ ys, ∀ c ∈ y.cells.toList, c.oneCell' = true)
    (hbytes : (xs.length + ys.length) * bytes ≤ 140737488355328) (hlen : xs.length + ys.length ≤ maxLen) (hbase : base ≤ w.heap.size)
    (k : ∀ g cap w', Own w' base e sz (xs ++ ys) (.slice (some ⟨g, 0, none⟩) (xs.length + ys.length) cap) → w.grownBy w' v.ownBlock → (v.ownBlock = some g ∨ g = w.heap.size) → g < w'.heap.size →
      wpList P ops Q rest (a.put o.dst (.slice (some ⟨g, 0, none⟩) (xs.length + ys.length) cap)) w') : wpList P ops Q (o :: rest) a w := by
  obtain ⟨i, z, hi, hz, hz1, hz2, hzs⟩ := hE.info
  rcases hown'.form with ⟨rfl, _⟩ | ⟨g', cap', hu, hb', hl', hc1, hc2⟩
  · simp at hn
  have hfl : (ys.flatMap (·.cells.toList)).length = ys.length * sz := by
    have h2 := hown'.2
    clear hown' hn h1 hbytes hlen k hx hu hc1
    induction ys with
    | nil => simp
    | cons y ys ih =>
      rw [List.flatMap_cons, List.length_append, ih fun z hz => h2 z (by simp [hz]), List.length_cons, Nat.add_mul]
      have := h2 y (by simp)
      simp [this]; omega
  refine wpList_append_lies _ hgd s x t ho base e i z sz bytes hE.ht hi hz hz1 hz2 hzs hE.pos v xs.length _ hs hown.1 ⟨g', 0, none⟩ ys.length cap' (ys.flatMap (·.cells.toList)) (hx.trans hu) hfl
    ?_ (fun c hc => by
      obtain ⟨y, hy, hc⟩ := List.mem_flatMap.1 hc
      exact h1 y hy c hc) hn hlen hbytes hbase w.heap.size rfl ?_
  · intro j c hj
    subst hu
    rcases hown'.1.2 with ⟨h2, _⟩ | ⟨g2, cap2, cur, hv, hb, hh, h5, h6, h7, h8⟩
    · cases h2
    · obtain ⟨rfl, rfl⟩ : g' = g2 ∧ cap' = cap2 := by simpa using hv
      have hj2 : cur.toList[j]? = some c := by
        rw [← h8] at hj
        rw [List.getElem?_take] at hj
        split at hj
        · exact hj
        · cases hj
      exact World.news_of_block hh j c hj2
  · intro g cap w' h2 h3 h4 h5
    refine k g cap w' ⟨by simpa using h2, fun y hy => ?_⟩ h3 h4 h5
    rcases List.mem_append.1 hy with hy | hy
    · exact hown.2 _ hy
    · exact hown'.2 _ hy
theorem OwnX.cat {α : Type} {V : World → (Nat → Prop) → α → Value → Prop} (hV : VOk V) {w w' : World} {base e sz : Nat} {S S' : Nat → Prop} {ts us : List α} {v : Value} {xs ys : List Value} {g n cap : Nat}
    (h2 : xs.length = ts.length) (h3 : ∀ i (h : i < ts.length) (h' : i < xs.length), V w (fun b => S b ∧ some b ≠ v.ownBlock) ts[i] xs[i])
    (h2' : ys.length = us.length) (h3' : ∀ i (h : i < us.length) (h' : i < ys.length), V w S' us[i] ys[i]) (hS : ∀ b, S' b → b < w.heap.size → S b ∧ some b ≠ v.ownBlock)
    (k1 : Own w' base e sz (xs ++ ys) (.slice (some ⟨g, 0, none⟩) n cap)) (k2 : w.grownBy w' v.ownBlock) (k3 : v.ownBlock = some g ∨ g = w.heap.size) : OwnX V w' base e sz S (ts ++ us) (.slice (some ⟨g, 0, none⟩) n cap) := by
  have hk : Keeps (fun b => S b ∧ some b ≠ v.ownBlock) w w' := Keeps.grown k2 fun b hb => hb.2
  have hs : ∀ b, (S b ∧ some b ≠ v.ownBlock) → b < w.heap.size → (S b ∧ some b ≠ (Value.slice (some ⟨g, 0, none⟩) n cap).ownBlock) := by
    rintro b ⟨hb, hne⟩ hlt
    refine ⟨hb, fun e => ?_⟩
    have e' : b = g := by simpa [Value.ownBlock] using e
    subst e'
    rcases k3 with k3 | k3
    · exact hne k3.symm
    · omega
  refine ⟨xs ++ ys, k1, by simp [h2, h2'], fun i hi hi' => ?_⟩
  by_cases hlt : i < ts.length
  · rw [List.getElem_append_left hlt, List.getElem_append_left (by omega)]
    exact hV.keep (h3 i hlt (by omega)) hk hs
  · have h8 : i - ts.length < us.length := by rw [List.length_append] at hi; omega
    have h9 : i - ts.length < ys.length := by omega
    rw [List.getElem_append_right (by omega), List.getElem_append_right (by omega)]
    have := h3' _ h8 h9
    simp only [h2]
    exact hV.keep (hV.keep this (.ext (Ext.rfl' w)) hS) hk hs
end Go.Proofs.Ytmeekpinkfpnhaa

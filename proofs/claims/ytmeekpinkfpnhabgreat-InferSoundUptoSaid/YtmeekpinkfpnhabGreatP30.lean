/- Lists of things that the call itself makes, whatever the things are. -/
import Derived.Test.YtmeekpinkfpnhabGreatP07
import Derived.Test.YtmeekpinkfpnhabGreatP08
import Derived.Test.YtmeekpinkfpnhabGreatP12
import Derived.Test.YtmeekpinkfpnhabGreatP29
import Derived.OrdersHeld
import Derived.Deep.Cut
import Derived.Deep.CutRange
set_option linter.all false
namespace Go.Proofs.YtmeekpinkfpnhabGreat
open Go.RowKit
def lexi (f h : Int × Int → Bool) : List Int → List Int → Bool
 | a :: l, b :: m => if f (a, b) then lexi f h l m else h (a, b)
 | _, _ => false
def grV (f h : Int × Int → Bool) (sv sf : Int) (sa : List Int) (tv tf : Int) (ta : List Int) (i k : Int) : Bool :=
 if sv > 0 then false
 else if sa.any (fun a => f (a, k) || h (a, k)) then true
 else if tv > 0 ∨ sf < tf ∨ ta.any (fun b => !h (i, b)) = true then false
 else if sf > tf then true
 else lexi f h sa ta
theorem lexi_go {f h : Int × Int → Bool} {sa ta : List Int} {j : Nat} (hj : j < sa.length) (hj' : j < ta.length) : lexi f h (sa.drop j) (ta.drop j) = if f (sa[j], ta[j]) then lexi f h (sa.drop (j + 1)) (ta.drop (j + 1)) else h (sa[j], ta[j]) := by
 rw [List.drop_eq_getElem_cons hj, List.drop_eq_getElem_cons hj', lexi]
set_option maxRecDepth 100000 in
set_option maxHeartbeats 2000000 in
theorem greater_any (S S' : Nat → Prop) (sv sf tv tf i k : Int) (us ut : Value) (sa ta : List Int) (aa ab : Option Addr) (ca cb bc bs ba : Nat) (f h : Int × Int → Bool) (w : World)
  (hs1 : us.oneCell' = true) (ht1 : ut.oneCell' = true)
  (h2 : w.cell? ⟨bc, 2, none⟩ = some (.map (some bs))) (h3 : w.cell? ⟨bc, 3, none⟩ = some (.map (some ba))) (h4 : MapF w bs f) (h5 : MapF w ba h)
  (l1 : sa.length ≤ ca) (l2 : ca ≤ maxLen) (l3 : SlI w S sa aa) (l1' : ta.length ≤ cb) (l2' : cb ≤ maxLen) (l3' : SlI w S' ta ab) (hlen : sv ≤ 0 → tv ≤ 0 → sf = tf → sa.length ≤ ta.length) :
  Calls Tryz.prog 148 #[.pointer (some ⟨bc, 0, none⟩), .agg #[.int .i64 sv, .int .i64 sf, us, .slice aa sa.length ca], .agg #[.int .i64 tv, .int .i64 tf, ut, .slice ab ta.length cb], .int .i64 i, .int .i64 k] w
   fun e w' => e = .returned (.bool (grV f h sv sf sa tv tf ta i k)) ∧ Ext w w' := by
 unfold maxLen at l2 l2'
 by_cases hsv : 0 < sv
 ·have HV := hid (show grV f h sv sf sa tv tf ta i k = false by rw [grV, if_pos hsv])
  go_enter Tryz.func148, Tryz.ntmps148
  go_wp2_with fail
  go_ret
  exact ⟨ret_bool HV.out.symm, (((Ext.two _ _ _).new _).new _).new _⟩
 ·have HV := hid (show grV f h sv sf sa tv tf ta i k = if sa.any (fun a => f (a, k) || h (a, k)) then true else if tv > 0 ∨ sf < tf ∨ ta.any (fun b => !h (i, b)) = true then false else if sf > tf then true else lexi f h sa ta by rw [grV, if_neg hsv])
  have H2 := hid h2
  have H3 := hid h3
  have HL := hid hlen; clear hlen
  go_enter Tryz.func148, Tryz.ntmps148
  go_wp2_with fail
  have hx0 : Ext w (((((w.alloc (.cells #[.pointer (some ⟨bc, 0, none⟩)] 167)).alloc (.cells #[.int .i64 sv, .int .i64 sf, us, .slice aa sa.length ca] 178)).alloc (.cells #[.int .i64 tv, .int .i64 tf, ut, .slice ab ta.length cb] 178)).alloc (.cells #[.int .i64 i] 3)).alloc (.cells #[.int .i64 k] 3)) := (((Ext.two _ _ _).new _).new _).new _
  refine (containsInt_any S sa (fun a => f (a, k) || h (a, k)) aa ca 151 #[.pointer (some ⟨w.heap.size, 0, none⟩), .pointer (some ⟨w.heap.size + 4, 0, none⟩)] _ l1 (by unfold maxLen; exact l2) (l3.ext hx0) greater1_enter ?hf).mono ?_
  case hf =>
   intro j hj wr hxr
   have e1 : wr.cell? ⟨w.heap.size, 0, none⟩ = some (.pointer (some ⟨bc, 0, none⟩)) := hxr.some_ (by go_simp)
   have e2 : wr.cell? ⟨w.heap.size + 4, 0, none⟩ = some (.int .i64 k) := hxr.some_ (by go_simp)
   exact greater1_any _ k _ _ bc bs ba f h wr e1 e2 ((hx0.step hxr).some_ H2.out) ((hx0.step hxr).some_ H3.out) (h4.ext (hx0.step hxr)) (h5.ext (hx0.step hxr))
  rintro e w1 ⟨rfl, hx1⟩
  have e1 : w1.cell? ⟨w.heap.size, 0, none⟩ = some (.pointer (some ⟨bc, 0, none⟩)) := hx1.some_ (by go_simp)
  have e2 : w1.cell? ⟨w.heap.size + 1, 0, none⟩ = some (.int .i64 sv) := hx1.some_ (by go_simp)
  have e3 : w1.cell? ⟨w.heap.size + 1, 1, none⟩ = some (.int .i64 sf) := hx1.some_ (by go_simp)
  have e4 : w1.cell? ⟨w.heap.size + 1, 3, none⟩ = some (.slice aa sa.length ca) := hx1.some_ (by go_simp)
  have e5 : w1.cell? ⟨w.heap.size + 2, 0, none⟩ = some (.int .i64 tv) := hx1.some_ (by go_simp)
  have e6 : w1.cell? ⟨w.heap.size + 2, 1, none⟩ = some (.int .i64 tf) := hx1.some_ (by go_simp)
  have e7 : w1.cell? ⟨w.heap.size + 2, 3, none⟩ = some (.slice ab ta.length cb) := hx1.some_ (by go_simp)
  have e8 : w1.cell? ⟨w.heap.size + 3, 0, none⟩ = some (.int .i64 i) := hx1.some_ (by go_simp)
  have hxw := hx0.step hx1
  clear hx0 hx1
  generalize sa.any (fun a => f (a, k) || h (a, k)) = q at *
  cases q
  ·have HV := hid (show grV f h sv sf sa tv tf ta i k = if tv > 0 ∨ sf < tf ∨ ta.any (fun b => !h (i, b)) = true then false else if sf > tf then true else lexi f h sa ta by rw [HV.out]; simp)
   by_cases htv : 0 < tv
   ·have HV := hid (show grV f h sv sf sa tv tf ta i k = false by rw [HV.out, if_pos (.inl htv)])
    go_wp2_with fail
    go_ret
    exact ⟨ret_bool HV.out.symm, hxw⟩
   ·by_cases hsf : sf < tf
    ·have HV := hid (show grV f h sv sf sa tv tf ta i k = false by rw [HV.out, if_pos (.inr (.inl hsf))])
     go_wp2_with fail
     go_ret
     exact ⟨ret_bool HV.out.symm, hxw⟩
    ·go_wp2_with fail
     refine (containsInt_any S' ta (fun b => !h (i, b)) ab cb 152 #[.pointer (some ⟨w.heap.size, 0, none⟩), .pointer (some ⟨w.heap.size + 3, 0, none⟩)] _ l1' (by unfold maxLen; exact l2') (l3'.ext hxw) greater2_enter ?hg).mono ?_
     case hg =>
      intro j hj wr hxr
      exact greater2_any _ i _ _ bc ba h wr (hxr.some_ e1) (hxr.some_ e8) ((hxw.step hxr).some_ H3.out) (h5.ext (hxw.step hxr))
     rintro e w2 ⟨rfl, hx2⟩
     have e1 := hx2.some_ e1
     have e2 := hx2.some_ e2
     have e3 := hx2.some_ e3
     have e4 := hx2.some_ e4
     have e5 := hx2.some_ e5
     have e6 := hx2.some_ e6
     have e7 := hx2.some_ e7
     have hxw := hxw.step hx2
     have HA := hid (show tv > 0 ∨ sf < tf ∨ ta.any (fun b => !h (i, b)) = true ↔ ta.any (fun b => !h (i, b)) = true by constructor; (rintro (h | h | h); omega; omega; exact h); exact fun h => .inr (.inr h))
     generalize ta.any (fun b => !h (i, b)) = q at *
     cases q
     ·have HV := hid (show grV f h sv sf sa tv tf ta i k = if sf > tf then true else lexi f h sa ta by rw [HV.out, if_neg (fun h => by simpa using HA.out.1 h)])
      clear HA
      by_cases hgt : tf < sf
      ·have HV := hid (show grV f h sv sf sa tv tf ta i k = true by rw [HV.out, if_pos hgt])
       go_wp2_with fail
       go_ret
       exact ⟨ret_bool HV.out.symm, hxw⟩
      ·have HV := hid (show grV f h sv sf sa tv tf ta i k = lexi f h sa ta by rw [HV.out, if_neg hgt])
       have hle : sa.length ≤ ta.length := HL.out (by omega) (by omega) (by omega)
       go_wp2_with fail
       go_loopw [55] (fun n wr => ∃ j : Nat, j ≤ sa.length ∧ n = .int .i64 j ∧ lexi f h (sa.drop j) (ta.drop j) = lexi f h sa ta ∧ Ext w2 wr) (fun n _ => sa.length - (intOf n).toNat)
       case atStart => exact ⟨0, by omega, rfl, rfl, Ext.rfl' _⟩
       case round =>
        obtain ⟨j, hj, rfl, hc, hx⟩ := hrel
        have HC := hid hc; clear hc
        have e1 := hx.some_ e1
        have e7 := hx.some_ e7
        have hxw := hxw.step hx
        by_cases hlt : j < sa.length
        ·have hlt' : j < ta.length := by omega
         obtain ⟨b, o, rfl⟩ := l3.some_ (by omega)
         obtain ⟨b', o', rfl⟩ := l3'.some_ (by omega)
         obtain ⟨_, hz, hc⟩ := (l3.ext hxw).at_ hlt
         obtain ⟨_, hz', hc'⟩ := (l3'.ext hxw).at_ hlt'
         have hc : wr.cell? ⟨b, o + j, none⟩ = some (.int .i64 sa[j]) := by simpa using hc
         have hc' : wr.cell? ⟨b', o' + j, none⟩ = some (.int .i64 ta[j]) := by simpa using hc'
         have HG := hid (lexi_go (f := f) (h := h) hlt hlt')
         have q1 : (0 : Int) ≤ (j : Int) := by omega
         have q2 : (j : Int) < (ta.length : Int) := by omega
         generalize sa[j] = x at *
         generalize ta[j] = y at *
         go_wp2_with fail
         refine wp_region_mild (by kernel_rfl) (by kernel_rfl) ?_
         intro I _ W hE hC
         have f1 := mild_cell hE (show (wr.alloc (.cells #[.int .i64 x, .int .i64 y] 174)).cell? ⟨w.heap.size, 0, none⟩ = _ from (Ext.one _ _).some_ e1)
         have f2 := mild_cell hE ((Ext.one _ _).some_ (hxw.some_ H2.out))
         have f3 : ∀ i, (W i).cell? ⟨wr.heap.size, 0, none⟩ = some (.int .i64 x) := mild_cell hE (by go_simp)
         have f4 : ∀ i, (W i).cell? ⟨wr.heap.size, 1, none⟩ = some (.int .i64 y) := mild_cell hE (by go_simp)
         have f5 := mild_map hE ((h4.ext hxw).ext (Ext.one _ _)) x y
         repeat (go_big_quiet_step (fail))
         refine wpQuiet_nil ?_
         intro _ hw'
         obtain ⟨i1, hw''⟩ := hw'
         subst hw''
         have hxi := (Ext.one _ _).step (hE i1)
         cases hq : f (x, y)
         ·have HZ := hid (show lexi f h sa ta = h (x, y) by rw [← HC.out, HG.out, hq]; rfl)
          have e1 := (hE i1).some_ ((Ext.one wr (.cells #[.int .i64 x, .int .i64 y] 174)).some_ e1)
          have e9 := (hE i1).some_ ((Ext.one wr (.cells #[.int .i64 x, .int .i64 y] 174)).some_ (hxw.some_ H3.out))
          have g3 := f3 i1
          have g4 := f4 i1
          have hm := (h5.ext hxw).ext hxi
          clear f1 f2 f3 f4 f5
          go_wp2_with fail
          refine wp_region_mild (by kernel_rfl) (by kernel_rfl) ?_
          intro I2 _ W2 hE2 hC2
          have f1 := mild_cell hE2 e1
          have f2 := mild_cell hE2 e9
          have f3 := mild_cell hE2 g3
          have f4 := mild_cell hE2 g4
          have f5 := mild_map hE2 hm x y
          repeat (go_big_quiet_step (fail))
          refine wpQuiet_nil ?_
          intro _ hw'
          obtain ⟨i2, hw''⟩ := hw'
          subst hw''
          go_wp2_with fail
          go_ret
          exact ⟨ret_bool (by rw [HV.out, HZ.out]), (hxw.step hxi).step (hE2 i2)⟩
         ·have HZ := hid (show lexi f h (sa.drop (j + 1)) (ta.drop (j + 1)) = lexi f h sa ta by rw [← HC.out, HG.out, hq]; rfl)
          clear f1 f2 f3 f4 f5
          go_wp2_with fail
          go_roundw
          case rel => exact ⟨j + 1, by omega, by go_num, HZ.out, hx.step hxi⟩
          case measure => simp [intOf]; omega
        ·obtain rfl : j = sa.length := by omega
         have HZ := hid (show lexi f h sa ta = false by rw [← HC.out, List.drop_length, lexi]; simp)
         go_wp2_with fail
         go_ret
         exact ⟨ret_bool (by rw [HV.out, HZ.out]), hxw⟩
     ·have HW := hid (show grV f h sv sf sa tv tf ta i k = false by rw [HV.out, if_pos (HA.out.2 rfl)])
      clear HV HA
      go_wp2_with fail
      go_ret
      exact ⟨ret_bool HW.out.symm, hxw⟩
  ·have HV := hid (show grV f h sv sf sa tv tf ta i k = true by rw [HV.out]; simp)
   go_wp2_with fail
   go_ret
   exact ⟨ret_bool HV.out.symm, hxw⟩
def plainOp : Op → Bool
 | .call { callee := .builtin .len, .. } => true
 | .call _ | .go _ | .defer _ | .send _ _ | .recv _ _ _ | .select _ _ => false
 | _ => true
theorem andThen_value {P : Program} {w w' : World} {x : Next} {s : Sem Value} (h : Sem.run P (do pure (.value (← s)) : Sem Next) w = .ok x w') : ∃ v, x = .value v := by
 rw [Sem.run_bind] at h
 cases hs : Sem.run P s w with
 | ok v w1 => rw [hs] at h; simp at h; exact ⟨v, h.1.symm⟩
 | halt e w1 => rw [hs] at h; simp at h
theorem andThen_skip {P : Program} {w w' : World} {x : Next} {s : Sem Unit} (h : Sem.run P (do s; pure .skip : Sem Next) w = .ok x w') : x = .skip := by
 rw [Sem.run_bind] at h
 cases hs : Sem.run P s w with
 | ok v w1 => rw [hs] at h; simp at h; exact h.1.symm
 | halt e w1 => rw [hs] at h; simp at h
theorem noEnter {P : Program} {o : Oper} {ρ : Operand → Value} {w w' : World} {f : FuncId} {args : Array Value} (ho : plainOp o.op = true) : Sem.run P (execOp ρ o) w ≠ .ok (.enter f args) w' := by
 intro h
 obtain ⟨dst, op, type, pos, after, guard⟩ := o
 cases op <;> simp only [plainOp] at ho <;> simp only [execOp] at h
 case pick c a b =>
  rw [Sem.run_bind] at h
  cases hs : Sem.run P (asBool (ρ c)) w with
  | ok v w1 => rw [hs] at h; simp at h
  | halt e w1 => rw [hs] at h; simp at h
 case nilCheck x =>
  have hpan : ∀ x w', Sem.run P (runtimePanic .nilDeref : Sem Next) w ≠ .ok x w' := by
   intro x w' h
   simp [runtimePanic, goPanic, go_sem] at h
   repeat (first | split at h | (simp at h; done))
  split at h
  ·exact hpan _ _ h
  ·exact hpan _ _ h
  ·exact hpan _ _ h
  ·split at h
   ·exact hpan _ _ h
   ·rename_i t w2 _
    rw [Sem.run_bind] at h
    cases h1 : Sem.run P program w with
    | halt e w1 => rw [h1] at h; simp at h
    | ok p w1 =>
     rw [h1] at h
     simp only [Result.andThen_ok, Sem.run_bind] at h
     cases h2 : Sem.run P (nilAhead (p.types.size + Made.depth) t w2 _) w1 with
     | halt e w3 => rw [h2] at h; simp at h
     | ok r w3 =>
      rw [h2] at h
      simp only [Result.andThen_ok] at h
      split at h <;> simp at h
   ·simp at h
  ·simp at h
 case call c =>
  obtain ⟨callee, as', ats⟩ := c
  cases callee with
  | value f => cases ho
  | invoke r m => cases ho
  | builtin b =>
   cases b <;> first | (cases ho; done) | skip
   simp only [resolve, Sem.run_bind, Sem.run_pure, Result.andThen_ok, invoke, builtin] at h
   cases hs : Sem.run P (Builtin.len_ ats type (Array.map ρ as')) w with
   | ok v w1 => rw [hs] at h; simp at h
   | halt e w1 => rw [hs] at h; simp at h
 all_goals first
  | (obtain ⟨v, hv⟩ := andThen_value h; cases hv; done)
  | (have := andThen_skip h; cases this; done)
  | (simp at h; done)
  | (cases ho; done)
def readOp : Op → Bool
 | .store _ _ _ | .ready _ | .mapUpdate _ _ _ _ | .insert _ _ _ _ | .entryStore _ _ _ _ => false
 | op => plainOp op
theorem readOp_plain {op : Op} (h : readOp op = true) : plainOp op = true := by cases op <;> first | exact h | cases h
theorem noSkip {P : Program} {o : Oper} {ρ : Operand → Value} {w w' : World} (ho : readOp o.op = true) : Sem.run P (execOp ρ o) w ≠ .ok .skip w' := by
 intro h
 obtain ⟨dst, op, type, pos, after, guard⟩ := o
 cases op <;> simp only [readOp, plainOp] at ho <;> simp only [execOp] at h
 case pick c a b =>
  rw [Sem.run_bind] at h
  cases hs : Sem.run P (asBool (ρ c)) w with
  | ok v w1 => rw [hs] at h; simp at h
  | halt e w1 => rw [hs] at h; simp at h
 case nilCheck x =>
  have hpan : ∀ x w', Sem.run P (runtimePanic .nilDeref : Sem Next) w ≠ .ok x w' := by
   intro x w' h
   simp [runtimePanic, goPanic, go_sem] at h
   repeat (first | split at h | (simp at h; done))
  split at h
  ·exact hpan _ _ h
  ·exact hpan _ _ h
  ·exact hpan _ _ h
  ·split at h
   ·exact hpan _ _ h
   ·rename_i t w2 _
    rw [Sem.run_bind] at h
    cases h1 : Sem.run P program w with
    | halt e w1 => rw [h1] at h; simp at h
    | ok p w1 =>
     rw [h1] at h
     simp only [Result.andThen_ok, Sem.run_bind] at h
     cases h2 : Sem.run P (nilAhead (p.types.size + Made.depth) t w2 _) w1 with
     | halt e w3 => rw [h2] at h; simp at h
     | ok r w3 =>
      rw [h2] at h
      simp only [Result.andThen_ok] at h
      split at h <;> simp at h
   ·simp at h
  ·simp at h
 case call c =>
  obtain ⟨callee, as', ats⟩ := c
  cases callee with
  | value f => cases ho
  | invoke r m => cases ho
  | builtin b =>
   cases b <;> first | (cases ho; done) | skip
   simp only [resolve, Sem.run_bind, Sem.run_pure, Result.andThen_ok, invoke, builtin] at h
   cases hs : Sem.run P (Builtin.len_ ats type (Array.map ρ as')) w with
   | ok v w1 => rw [hs] at h; simp at h
   | halt e w1 => rw [hs] at h; simp at h
 all_goals first
  | (obtain ⟨v, hv⟩ := andThen_value h; cases hv; done)
  | (simp at h; done)
  | (cases ho; done)
def takesB (ops : Array Oper) : List Nat → Array Bool → Bool
 | [], _ => true
 | i :: is, listed => (Region.ready .any ops listed).contains i && Region.free .any ops listed i && (match ops[i]? with | some o => readOp o.op | none => false) && takesB ops is (listed.setIfInBounds i true)
def wpTakes (P : Program) (ops : Array Oper) (C : World → Prop) (Fin : Act → Prop) : List Nat → Act → Prop
 | [], a => Fin a
 | i :: is, a => match ops[i]? with
  | some o => if Region.wanted o (yielded ops a.tmps) then o.quiet P a C (wpTakes P ops C Fin is) else wpTakes P ops C Fin is (a.put o.dst undef)
  | none => False
section
variable {P : Program} {ops : Array Oper} {C : World → Prop} {Fin : Act → Prop} {i : Nat} {is : List Nat} {o : Oper} {a : Act}
theorem wpTakes_nil (h : Fin a) : wpTakes P ops C Fin [] a := h
theorem drop_at {l r : List Oper} (h : l.drop i = o :: r) : l.toArray[i]? = some o := by
 have := congrArg (fun l => l[0]?) h
 simpa using this
theorem wpTakes_want {l r : List Oper} (hd : l.drop i = o :: r) (hw : Region.wanted o (yielded l.toArray a.tmps) = true) (h : ∀ K : Act → Prop, (∀ a, wpTakes P l.toArray C Fin is a → K a) → o.quiet P a C K) : wpTakes P l.toArray C Fin (i :: is) a := by
 have hi := drop_at hd
 unfold wpTakes
 rw [hi]
 simp only
 rw [if_pos hw]
 exact h _ fun _ h => h
end
def listing : List Nat → Array Bool → Array Bool
 | [], listed => listed
 | i :: is, listed => listing is (listed.setIfInBounds i true)
theorem wpAnyH_takes {P : Program} {ops : Array Oper} {Q : Exit → Act → World → Prop} {C : World → Prop} {w : World} (hs : Region.noSelect ops = true) (hQ : ∀ c d v a w, Q (.panic c) (a.put d v) w → Q (.panic c) a w) (hC : C w) (fuel : Nat) :
  ∀ (is : List Nat) (listed : Array Bool) (a : Act), takesB ops is listed = true → wpTakes P ops C (fun a' => wpAnyH P .any ops Q C fuel (listing is listed) a' w) is a → wpAnyH P .any ops Q C (fuel + is.length) listed a w
 | [], _, _, _, h => h
 | i :: is, listed, a, hB, h => by
  simp only [takesB, Bool.and_eq_true] at hB
  obtain ⟨⟨⟨h1, h2⟩, h3⟩, h4⟩ := hB
  cases hi : ops[i]? with
  | none => rw [hi] at h3; cases h3
  | some o =>
   rw [hi] at h3
   simp only at h3
   unfold wpTakes at h
   rw [hi] at h
   simp only at h
   have hrec := fun a' h' => wpAnyH_takes (P := P) (Q := Q) (C := C) (w := w) hs hQ hC fuel is (listed.setIfInBounds i true) a' h4 h'
   by_cases hw : Region.wanted o (yielded ops a.tmps) = true
   ·rw [if_pos hw] at h
    obtain ⟨v, hv, hk⟩ := h
    refine wpAnyH_take hi hs h2 h1 (fun c a w => hQ c _ _ a w) (.inl ⟨hw, fun w' hw' => ?_⟩) hC (hrec _ hk)
    have hq := hv w' hw'
    unfold Oper.quietAt at hq
    cases hr : (execOp a.eval o).run P w' with
    | ok x w2 =>
     rw [hr] at hq
     cases x <;> simp only [Oper.quietUpon] at hq
     case value u => rw [hq.1, hq.2]
     case skip => exact absurd hr (noSkip h3)
     case enter f args => exact absurd hr (noEnter (readOp_plain h3))
    | halt x w2 => rw [hr] at hq; simp only [Oper.quietUpon] at hq
   ·rw [if_neg hw] at h
    exact wpAnyH_take hi hs h2 h1 (fun c a w => hQ c _ _ a w) (.inr ⟨by simpa using hw, rfl⟩) hC (hrec _ h)
theorem wpOp_go {P : Program} {Q : Exit → Act → World → Prop} {i : Nat} {o : Oper} {K : Act → World → Prop} {a : Act} {w : World} {l r : List Oper} (hd : l.drop i = o :: r) (hg : o.guard = none)
  (h : ∀ K' : Act → World → Prop, (∀ a w, K a w → K' a w) → o.wp P a w K' Q) : wpOp P l.toArray Q i K a w := by
 have hi := drop_at hd
 unfold wpOp
 rw [hi]
 simp only
 rw [if_pos (by simp [Region.wanted, hg])]
 exact .inl (h K fun _ _ h => h)
theorem wp_region_takes {P : Program} {id : Nat} {Q : Exit → Act → World → Prop} {a : Act} {w : World} {l : List Oper} (is : List Nat) (fuel : Nat) (hm : P.follows .mixedOrders = true)
  (hB : (Region.noSelect l.toArray && takesB l.toArray is (Array.replicate l.length false) && decide (fuel + is.length = l.length)) = true)
  (h : ∀ (I : Type) [Nonempty I] (W : I → World), (∀ i, Ext w (W i)) → wpTakes P l.toArray (fun w' => ∃ i, w' = W i)
   (fun a' => wpAnyH P .any l.toArray (fun e a w => e = .normal ∧ Q .normal a w) (Ext w) fuel (listing is (Array.replicate l.length false)) a' w.drew) is a) : (Code.region id l.toArray true).wp P Q a w := by
 simp only [Bool.and_eq_true, decide_eq_true_eq] at hB
 obtain ⟨⟨h1, h2⟩, h3⟩ := hB
 haveI : Nonempty { w' // Ext w w' } := ⟨⟨w, Ext.rfl' w⟩⟩
 have hl := h { w' // Ext w w' } (fun i => i.1) (fun i => i.2)
 have hCe : (fun w' => ∃ i : { w' // Ext w w' }, w' = i.1) = Ext w := funext fun w' => propext ⟨fun ⟨i, e⟩ => e ▸ i.2, fun h => ⟨⟨w', h⟩, rfl⟩⟩
 rw [hCe] at hl
 have := wpAnyH_takes (Q := fun e a w => e = .normal ∧ Q .normal a w) (C := Ext w) (w := w.drew) h1 (fun c d v a w h => (by cases h.1)) (Ext.draw (Ext.rfl' w)) fuel is (Array.replicate l.length false) a h2 hl
 rw [h3] at this
 have h4 : (Code.region id l.toArray true).wp P (fun e a w => e = .normal ∧ Q .normal a w) a w := wp_region_held hm (by simpa using this)
 exact Code.wp_mono (fun e a w h => by obtain ⟨rfl, h⟩ := h; exact h) h4
def PtC (w : World) (S : Nat → Prop) (p : Tm × List Int) (ad : Addr) : Prop := TmC w S p.1 ad ∧ ∃ a cap, w.cell? (ad.add 3) = some (.slice a p.2.length cap) ∧ p.2.length ≤ cap ∧ cap ≤ maxLen ∧ SlI w S p.2 a
abbrev SlP (w : World) (S : Nat → Prop) (ps : List (Tm × List Int)) (a : Option Addr) : Prop := Sl w S 4 (PtC w S) ps a
theorem SlP.ext {w w' : World} {S : Nat → Prop} {ps : List (Tm × List Int)} {a : Option Addr} (h : SlP w S ps a) (hx : Ext w w') : SlP w' S ps a :=
 Sl.mono h (fun _ h _ => h) hx.size fun _ _ _ hs hb ⟨h1, a, cap, h2, h3⟩ => ⟨TmC.keep (.ext hx) (fun _ h _ => h) _ _ hs hb h1, a, cap, hx.some_ h2, h3.1, h3.2.1, h3.2.2.ext hx⟩
theorem SlP.readAt {w : World} {S : Nat → Prop} {ps : List (Tm × List Int)} {b o : Nat} (h : SlP w S ps (some ⟨b, o, none⟩)) {i : Nat} (hi : i < ps.length) :
  w.cell? ⟨b, o + i * 4, none⟩ = some (.int .i64 ps[i].1.v) ∧ w.cell? ⟨b, o + i * 4 + 1, none⟩ = some (.int .i64 ps[i].1.f) ∧
   (∃ a cap, w.cell? ⟨b, o + i * 4 + 2, none⟩ = some (.slice a ps[i].1.us.length cap)) ∧ ∃ a cap, w.cell? ⟨b, o + i * 4 + 3, none⟩ = some (.slice a ps[i].2.length cap) ∧ ps[i].2.length ≤ cap ∧ cap ≤ maxLen ∧ SlI w S ps[i].2 a := by
 obtain ⟨_, h2, h3, h4⟩ := h.at_ hi
 obtain ⟨c1, c2, a1, cap1, c3, _⟩ := h3.read
 rw [add_none] at h4
 exact ⟨c1, c2, ⟨a1, cap1, c3⟩, h4⟩
def newVar (cs : Array Value) (t : TypeId) (v : Value) (lo hi : Nat) (w : World) : Prop := v = .pointer (some ⟨lo, 0, none⟩) ∧ w.heap[lo]? = some (.cells cs t) ∧ lo < hi
structure Upd (X : Nat → Prop) (w w' : World) : Prop where
 os : w'.os = w.os
 tape : w'.tape = w.tape
 output : w'.output = w.output
 size : w.heap.size ≤ w'.heap.size
 block : ∀ k, k < w.heap.size → ¬ X k → w'.heap[k]? = w.heap[k]?
theorem Upd.of_ext {X : Nat → Prop} {w w' : World} (h : Ext w w') : Upd X w w' := ⟨h.os, h.tape, h.output, h.size, fun k hk _ => h.block k hk⟩
theorem Upd.of_grown {X : Nat → Prop} {w w' : World} {b : Nat} (h : w.grownBy w' (some b)) (hb : X b) : Upd X w w' :=
 ⟨h.os, h.tape, h.output, h.size, fun k hk hX => h.block k hk fun e => hX (by cases e; exact hb)⟩
theorem Upd.trans {X : Nat → Prop} {a b c : World} (h : Upd X a b) (k : Upd X b c) : Upd X a c :=
 ⟨k.os.trans h.os, k.tape.trans h.tape, k.output.trans h.output, Nat.le_trans h.size k.size, fun i hi hX => by rw [k.block i (Nat.lt_of_lt_of_le hi h.size) hX, h.block i hi hX]⟩
theorem Upd.some_ {X : Nat → Prop} {w w' : World} (h : Upd X w w') {p : Addr} {v : Value} (hp : ¬ X p.block) (hc : w.cell? p = some v) : w'.cell? p = some v :=
 (World.cell?_of_block (h.block _ (cell_lt hc) hp)).trans hc
theorem Upd.below {X : Nat → Prop} {w w' : World} {B : Nat} (h : Upd X w w') (hB : B ≤ w.heap.size) (hX : ∀ k, X k → B ≤ k) : Below B w w' :=
 ⟨h.os, h.tape, h.output, h.size, fun k hk => h.block k (by omega) fun hx => by have := hX k hx; omega⟩
theorem MapF.upd {X : Nat → Prop} {w w' : World} {b : Nat} {f : Int × Int → Bool} (h : MapF w b f) (hu : Upd X w w') (hb : ¬ X b) : MapF w' b f := by
 obtain ⟨m, h1, h2⟩ := h
 have hl := h1.lt
 obtain ⟨es, clock, h3, h4⟩ := h1
 exact ⟨m, ⟨es, clock, (hu.block b hl hb).trans h3, h4⟩, h2⟩
theorem MapF.no_cell {w : World} {b : Nat} {f : Int × Int → Bool} (h : MapF w b f) {p : Addr} {v : Value} (hc : w.cell? p = some v) : p.block ≠ b := by
 obtain ⟨m, ⟨es, clock, h3, h4⟩, h2⟩ := h
 intro e
 rw [World.cell?, e, h3] at hc
 cases hc
def setF (f : Int × Int → Bool) (k : Int × Int) (x : Bool) : Int × Int → Bool := fun j => if j = k then x else f j
theorem MapF.put {w' : World} {b : Nat} {f : Int × Int → Bool} {m : List ((Int × Int) × Value)} (hm : ∀ k, (getAt k m).getD (.bool false) = .bool (f k)) {k : Int × Int} {x : Bool} (h : MapV pk w' b (putAt k (.bool x) m)) : MapF w' b (setF f k x) :=
 ⟨_, h, fun j => by
  rw [getAt_put]
  unfold setF
  by_cases hj : j = k
  ·simp [hj]
  ·simp [hj, hm j]⟩
theorem equalI_no' (xs ys : List Int) (hlen : xs.length ≠ ys.length) (a a' : Option Addr) (cap cap' : Nat) (fv : Value) (w : World) :
  Calls Tryz.prog 146 #[.slice a xs.length cap, .slice a' ys.length cap', fv] w fun e w' => e = .returned (.bool false) ∧ Ext w w' :=
 (equalI_no xs ys hlen a a' cap cap' fv w).mono fun _ _ ⟨h1, h2⟩ => ⟨h1, by rw [h2]; exact Ext.rfl' _⟩
def eqV (f : Int × Int → Bool) (p q : Tm × List Int) : Bool := p.1.v == q.1.v && p.1.f == q.1.f && (p.2.length == q.2.length && (p.2.zip q.2).all f)
def grP (f h : Int × Int → Bool) (p q : Tm × List Int) (i k : Int) : Bool := grV f h p.1.v p.1.f p.2 q.1.v q.1.f q.2 i k
set_option maxRecDepth 100000 in
set_option maxHeartbeats 2000000 in
theorem one_any (S S' : Nat → Prop) (ps pt : List (Tm × List Int)) (i k : Nat) (hi : i < ps.length) (hk : k < pt.length) (as' at' : Option Addr) (cs ct bc bs ba : Nat) (f h : Int × Int → Bool) (w : World)
  (h0 : w.cell? ⟨bc, 0, none⟩ = some (.slice as' ps.length cs)) (h1 : w.cell? ⟨bc, 1, none⟩ = some (.slice at' pt.length ct))
  (h2 : w.cell? ⟨bc, 2, none⟩ = some (.map (some bs))) (h3 : w.cell? ⟨bc, 3, none⟩ = some (.map (some ba))) (h4 : MapF w bs f) (h5 : MapF w ba h) (hne : bs ≠ ba)
  (l1 : ps.length ≤ cs) (l2 : cs ≤ maxLen) (l3 : SlP w S ps as') (l1' : pt.length ≤ ct) (l2' : ct ≤ maxLen) (l3' : SlP w S' pt at') (hlen : ps[i].1.v ≤ 0 → pt[k].1.v ≤ 0 → ps[i].1.f = pt[k].1.f → ps[i].2.length ≤ pt[k].2.length) :
  Calls Tryz.prog 144 #[.pointer (some ⟨bc, 0, none⟩), .int .i64 i, .int .i64 k] w
   fun e w' => e = .returned (.tuple #[]) ∧ Upd (fun b => b = bs ∨ b = ba) w w' ∧ MapF w' bs (setF f (i, k) (eqV f ps[i] pt[k])) ∧ MapF w' ba (setF h (i, k) (grP (setF f (i, k) (eqV f ps[i] pt[k])) h ps[i] pt[k] i k)) := by
 unfold maxLen at l2 l2'
 obtain ⟨b, o, rfl⟩ := l3.some_ (by omega)
 obtain ⟨b', o', rfl⟩ := l3'.some_ (by omega)
 obtain ⟨c0, c1, ⟨sa, sn, c2⟩, aa, ca, c3, m1, m2, m3⟩ := SlP.readAt l3 hi
 obtain ⟨d0, d1, ⟨ta, tn, d2⟩, ab, cb, d3, n1, n2, n3⟩ := SlP.readAt l3' hk
 have q1 : (0 : Int) ≤ (i : Int) := by omega
 have q2 : (i : Int) < (ps.length : Int) := by omega
 have q3 : (0 : Int) ≤ (k : Int) := by omega
 have q4 : (k : Int) < (pt.length : Int) := by omega
 have EV := hid (show eqV f ps[i] pt[k] = (ps[i].1.v == pt[k].1.v && ps[i].1.f == pt[k].1.f && (ps[i].2.length == pt[k].2.length && (ps[i].2.zip pt[k].2).all f)) from rfl)
 have HLEN := hid hlen; clear hlen
 have NE := hid hne; clear hne
 generalize ps[i] = p at *
 generalize pt[k] = q at *
 go_enter Tryz.func144, Tryz.ntmps144
 go_upto_region 1 with (fail)
 go_cut [6, 7] from 9 to 22 (fun s6 s7 wx => ∃ x y : Nat, s6 = .pointer (some ⟨x, 0, none⟩) ∧ s7 = .pointer (some ⟨y, 0, none⟩) ∧
  wx.cell? ⟨x, 0, none⟩ = some (.int .i64 p.1.v) ∧ wx.cell? ⟨x, 1, none⟩ = some (.int .i64 p.1.f) ∧ wx.cell? ⟨x, 2, none⟩ = some (.slice sa p.1.us.length sn) ∧ wx.cell? ⟨x, 3, none⟩ = some (.slice aa p.2.length ca) ∧
  wx.cell? ⟨y, 0, none⟩ = some (.int .i64 q.1.v) ∧ wx.cell? ⟨y, 1, none⟩ = some (.int .i64 q.1.f) ∧ wx.cell? ⟨y, 2, none⟩ = some (.slice ta q.1.us.length tn) ∧ wx.cell? ⟨y, 3, none⟩ = some (.slice ab q.2.length cb) ∧
  Ext (w.alloc (.cells #[.pointer (some ⟨bc, 0, none⟩)] 167)) wx)
 case first =>
  refine wp_region_takes [0, 1, 2, 3, 4, 5, 6, 7, 8, 9, 10, 11, 12, 13] 4 (by kernel_rfl) (by kernel_rfl) ?_
  intro I _ W hE
  have f0 := mild_cell hE (show (w.alloc (.cells #[.pointer (some ⟨bc, 0, none⟩)] 167)).cell? ⟨bc, 0, none⟩ = _ from (Ext.one _ _).some_ h0)
  have f1 := mild_cell hE (show (w.alloc (.cells #[.pointer (some ⟨bc, 0, none⟩)] 167)).cell? ⟨bc, 1, none⟩ = _ from (Ext.one _ _).some_ h1)
  have g0 := mild_cell hE (show (w.alloc (.cells #[.pointer (some ⟨bc, 0, none⟩)] 167)).cell? ⟨w.heap.size, 0, none⟩ = some (.pointer (some ⟨bc, 0, none⟩)) by go_simp)
  have e0 := mild_cell hE (show (w.alloc (.cells #[.pointer (some ⟨bc, 0, none⟩)] 167)).cell? ⟨b, o + i * 4, none⟩ = _ from (Ext.one _ _).some_ c0)
  have e1 := mild_cell hE (show (w.alloc (.cells #[.pointer (some ⟨bc, 0, none⟩)] 167)).cell? ⟨b, o + i * 4 + 1, none⟩ = _ from (Ext.one _ _).some_ c1)
  have e2 := mild_cell hE (show (w.alloc (.cells #[.pointer (some ⟨bc, 0, none⟩)] 167)).cell? ⟨b, o + i * 4 + 2, none⟩ = _ from (Ext.one _ _).some_ c2)
  have e3 := mild_cell hE (show (w.alloc (.cells #[.pointer (some ⟨bc, 0, none⟩)] 167)).cell? ⟨b, o + i * 4 + 3, none⟩ = _ from (Ext.one _ _).some_ c3)
  have k0 := mild_cell hE (show (w.alloc (.cells #[.pointer (some ⟨bc, 0, none⟩)] 167)).cell? ⟨b', o' + k * 4, none⟩ = _ from (Ext.one _ _).some_ d0)
  have k1 := mild_cell hE (show (w.alloc (.cells #[.pointer (some ⟨bc, 0, none⟩)] 167)).cell? ⟨b', o' + k * 4 + 1, none⟩ = _ from (Ext.one _ _).some_ d1)
  have k2 := mild_cell hE (show (w.alloc (.cells #[.pointer (some ⟨bc, 0, none⟩)] 167)).cell? ⟨b', o' + k * 4 + 2, none⟩ = _ from (Ext.one _ _).some_ d2)
  have k3 := mild_cell hE (show (w.alloc (.cells #[.pointer (some ⟨bc, 0, none⟩)] 167)).cell? ⟨b', o' + k * 4 + 3, none⟩ = _ from (Ext.one _ _).some_ d3)
  repeat (refine wpTakes_want (by rfl) (by rfl) ?_; intro K hK; go_big_quiet_op; go_big_quiet_on)
  refine wpTakes_nil ?_
  clear f0 f1 g0 e0 e1 e2 e3 k0 k1 k2 k3
  refine wpAnyH_all (rs := [14, 15]) (by kernel_rfl) (by simp) ?_
  intro n hn
  simp only [List.mem_cons, List.not_mem_nil, or_false] at hn
  rcases hn with rfl | rfl
  ·refine wpOp_go (by rfl) rfl ?_
   intro K hK
   go_simp
   refine hK _ _ ⟨(by repeat (first | exact Ext.rfl' _ | refine Ext.new ?_ _ | refine Ext.draw ?_)), ?_⟩
   clear hK K
   refine wpAnyH_all (rs := [15]) (by kernel_rfl) (by simp) ?_
   intro n hn
   obtain rfl := List.mem_singleton.1 hn
   refine wpOp_go (by rfl) rfl ?_
   intro K hK
   go_simp
   refine hK _ _ ⟨(by repeat (first | exact Ext.rfl' _ | refine Ext.new ?_ _ | refine Ext.draw ?_)), ?_⟩
   clear hK K
   refine wpAnyH_all (rs := [16]) (by kernel_rfl) (by simp) ?_
   intro n hn
   obtain rfl := List.mem_singleton.1 hn
   refine wpOp_go (by rfl) rfl ?_
   intro K hK
   go_simp
   refine hK _ _ ⟨(by repeat (first | exact Ext.rfl' _ | refine Ext.new ?_ _ | refine Ext.draw ?_)), ?_⟩
   clear hK K
   refine wpAnyH_all (rs := [17]) (by kernel_rfl) (by simp) ?_
   intro n hn
   obtain rfl := List.mem_singleton.1 hn
   refine wpOp_go (by rfl) rfl ?_
   intro K hK
   go_simp
   refine hK _ _ ⟨(by repeat (first | exact Ext.rfl' _ | refine Ext.new ?_ _ | refine Ext.draw ?_)), ?_⟩
   clear hK K
   refine wpAnyH_done (by kernel_rfl) ⟨rfl, ?_⟩ _
   go_wp2_with fail
   go_meet
   exact ⟨w.heap.size + 1, w.heap.size + 2, rfl, rfl, by go_simp, by go_simp, by go_simp, by go_simp, by go_simp, by go_simp, by go_simp, by go_simp, (by repeat (first | exact Ext.rfl' _ | refine Ext.new ?_ _ | refine Ext.draw ?_))⟩
  ·refine wpOp_go (by rfl) rfl ?_
   intro K hK
   go_simp
   refine hK _ _ ⟨(by repeat (first | exact Ext.rfl' _ | refine Ext.new ?_ _ | refine Ext.draw ?_)), ?_⟩
   clear hK K
   refine wpAnyH_all (rs := [14]) (by kernel_rfl) (by simp) ?_
   intro n hn
   obtain rfl := List.mem_singleton.1 hn
   refine wpOp_go (by rfl) rfl ?_
   intro K hK
   go_simp
   refine hK _ _ ⟨(by repeat (first | exact Ext.rfl' _ | refine Ext.new ?_ _ | refine Ext.draw ?_)), ?_⟩
   clear hK K
   refine wpAnyH_all (rs := [16]) (by kernel_rfl) (by simp) ?_
   intro n hn
   obtain rfl := List.mem_singleton.1 hn
   refine wpOp_go (by rfl) rfl ?_
   intro K hK
   go_simp
   refine hK _ _ ⟨(by repeat (first | exact Ext.rfl' _ | refine Ext.new ?_ _ | refine Ext.draw ?_)), ?_⟩
   clear hK K
   refine wpAnyH_all (rs := [17]) (by kernel_rfl) (by simp) ?_
   intro n hn
   obtain rfl := List.mem_singleton.1 hn
   refine wpOp_go (by rfl) rfl ?_
   intro K hK
   go_simp
   refine hK _ _ ⟨(by repeat (first | exact Ext.rfl' _ | refine Ext.new ?_ _ | refine Ext.draw ?_)), ?_⟩
   clear hK K
   refine wpAnyH_done (by kernel_rfl) ⟨rfl, ?_⟩ _
   go_wp2_with fail
   go_meet
   exact ⟨w.heap.size + 2, w.heap.size + 1, rfl, rfl, by go_simp, by go_simp, by go_simp, by go_simp, by go_simp, by go_simp, by go_simp, by go_simp, (by repeat (first | exact Ext.rfl' _ | refine Ext.new ?_ _ | refine Ext.draw ?_))⟩
 case rest =>
  obtain ⟨x, y, rfl, rfl, p0, p1, p2, p3, y0, y1, y2, y3, hxx⟩ := hcut
  obtain ⟨wb, rfl⟩ : ∃ wb : World, wb = wc := ⟨_, rfl⟩
  have hx0 := (Ext.one _ _).step hxx
  have b0 : wb.cell? ⟨w.heap.size, 0, none⟩ = some (.pointer (some ⟨bc, 0, none⟩)) := hxx.boxed 0
  have b2 := hx0.some_ h2
  have b3 := hx0.some_ h3
  have r1 := h4.ext hx0
  have r2 := h5.ext hx0
  have s1 := m3.ext hx0
  have s2 := n3.ext hx0
  clear h0 h1 h2 h3 h4 h5 l3 l3' c0 c1 c2 c3 d0 d1 d2 d3 m3 n3 hxx
  obtain ⟨w1, hw1⟩ : ∃ w1, w1 = wb.alloc (.cells #[.int .i64 i, .int .i64 k] 174) := ⟨_, rfl⟩
  have hx1 : Ext wb w1 := by rw [hw1]; exact Ext.one _ _
  have a0 : w1.cell? ⟨wb.heap.size, 0, none⟩ = some (.int .i64 i) := by rw [hw1]; go_simp
  have a1 : w1.cell? ⟨wb.heap.size, 1, none⟩ = some (.int .i64 k) := by rw [hw1]; go_simp
  have b0 := hx1.some_ b0
  have b2 := hx1.some_ b2
  have b3 := hx1.some_ b3
  have p0 := hx1.some_ p0
  have p1 := hx1.some_ p1
  have p2 := hx1.some_ p2
  have p3 := hx1.some_ p3
  have y0 := hx1.some_ y0
  have y1 := hx1.some_ y1
  have y2 := hx1.some_ y2
  have y3 := hx1.some_ y3
  have r1 := r1.ext hx1
  have r2 := r2.ext hx1
  have s1 := s1.ext hx1
  have s2 := s2.ext hx1
  have hxw := hx0.step hx1
  have HW := hid hw1
  clear hw1
  go_upto_region 3 with (fail)
  rw [← HW.out]
  go_cut [8] from 26 to 54 (fun s8 wx => s8 = .pointer (some ⟨wb.heap.size, 0, none⟩) ∧ MapF wx bs (setF f (i, k) (eqV f p q)) ∧ Upd (fun b => b = bs) w1 wx)
  case first =>
   refine wp_region_tail 29 (by kernel_rfl) (by kernel_rfl) ?_
   intro I _ W hE hC
   have f0 := mild_cell hE b0
   have f1 := mild_cell hE b2
   have f2 := mild_cell hE a0
   have f3 := mild_cell hE a1
   have f4 := mild_cell hE p0
   have f5 := mild_cell hE p1
   have f6 := mild_cell hE p3
   have f7 := mild_cell hE y0
   have f8 := mild_cell hE y1
   have f9 := mild_cell hE y3
   simp only [List.take_succ_cons, List.take_zero, List.drop_succ_cons, List.drop_zero]
   by_cases hv : p.1.v = q.1.v
   ·have hv' : (p.1.v == q.1.v) = true := by simpa using hv
    by_cases hf : p.1.f = q.1.f
    ·have hf' : (p.1.f == q.1.f) = true := by simpa using hf
     by_cases hl : p.2.length = q.2.length
     ·have X := hid (show eqV f p q = ((p.2.zip q.2).all fun z => f (z.1, z.2)) by rw [EV.out, hv, hf, hl]; simp)
      have HL2 := hid hl
      clear hv hf hl
      repeat (go_big_quiet_step ((refine mild_call hE hC (equalI_any S S' p.2 q.2 HL2.out (fun a b => f (a, b)) aa ab ca cb 147 #[.pointer (some ⟨w.heap.size, 0, none⟩)] _ m1 m2 (s1.ext (hE _)) (s2.ext (hE _)) one1_enter (fun j hj hj' wr hxr => one1_any _ _ _ bc bs f wr (hxr.some_ ((hE _).some_ b0)) (hxr.some_ ((hE _).some_ b2)) ((r1.ext (hE _)).ext hxr))))))
      refine wpQuiet_nil ?_
      rintro _ ⟨i1, rfl⟩
      change wpList _ _ _ _ _ (W i1)
      obtain ⟨m, hm, hmf⟩ := r1.ext (hE i1)
      refine wpList_put (by rfl) (by rfl) _ _ _ (by rfl) hm pk_ok Tryz.underlying170 (↑i, ↑k) _ (by rfl) (by rfl) (by rfl) ?_
      intro w2 hw2 hg2
      go_wp2_with fail
      go_meet
      exact ⟨rfl, by rw [X.out]; exact MapF.put hmf hw2, (Upd.of_ext (hE i1)).trans (Upd.of_grown hg2 rfl)⟩
     ·have X := hid (show eqV f p q = false by rw [EV.out]; simp [hl])
      have HL2 := hid hl
      clear hv hf hl
      repeat (go_big_quiet_step ((refine mild_call hE hC (equalI_no' p.2 q.2 HL2.out aa ab ca cb _ _))))
      refine wpQuiet_nil ?_
      rintro _ ⟨i1, rfl⟩
      change wpList _ _ _ _ _ (W i1)
      obtain ⟨m, hm, hmf⟩ := r1.ext (hE i1)
      refine wpList_put (by rfl) (by rfl) _ _ _ (by rfl) hm pk_ok Tryz.underlying170 (↑i, ↑k) _ (by rfl) (by rfl) (by rfl) ?_
      intro w2 hw2 hg2
      go_wp2_with fail
      go_meet
      exact ⟨rfl, by rw [X.out]; exact MapF.put hmf hw2, (Upd.of_ext (hE i1)).trans (Upd.of_grown hg2 rfl)⟩
    ·have hf' : (p.1.f == q.1.f) = false := by simpa using hf
     have X := hid (show eqV f p q = false by rw [EV.out]; simp [hf])
     clear hv hf
     repeat (go_big_quiet_step (fail))
     refine wpQuiet_nil ?_
     rintro _ ⟨i1, rfl⟩
     change wpList _ _ _ _ _ (W i1)
     obtain ⟨m, hm, hmf⟩ := r1.ext (hE i1)
     refine wpList_put (by rfl) (by rfl) _ _ _ (by rfl) hm pk_ok Tryz.underlying170 (↑i, ↑k) _ (by rfl) (by rfl) (by rfl) ?_
     intro w2 hw2 hg2
     go_wp2_with fail
     go_meet
     exact ⟨rfl, by rw [X.out]; exact MapF.put hmf hw2, (Upd.of_ext (hE i1)).trans (Upd.of_grown hg2 rfl)⟩
   ·have hv' : (p.1.v == q.1.v) = false := by simpa using hv
    have X := hid (show eqV f p q = false by rw [EV.out]; simp [hv])
    clear hv
    repeat (go_big_quiet_step (fail))
    refine wpQuiet_nil ?_
    rintro _ ⟨i1, rfl⟩
    change wpList _ _ _ _ _ (W i1)
    obtain ⟨m, hm, hmf⟩ := r1.ext (hE i1)
    refine wpList_put (by rfl) (by rfl) _ _ _ (by rfl) hm pk_ok Tryz.underlying170 (↑i, ↑k) _ (by rfl) (by rfl) (by rfl) ?_
    intro w2 hw2 hg2
    go_wp2_with fail
    go_meet
    exact ⟨rfl, by rw [X.out]; exact MapF.put hmf hw2, (Upd.of_ext (hE i1)).trans (Upd.of_grown hg2 rfl)⟩
  case rest =>
   obtain ⟨rfl, rr1, hu⟩ := hcut
   have nb : ∀ (p : Addr) (v : Value), w1.cell? p = some v → wc.cell? p = some v := fun _ _ hc => hu.some_ (r1.no_cell hc) hc
   have b0 := nb _ _ b0
   have b2 := nb _ _ b2
   have b3 := nb _ _ b3
   have a0 := nb _ _ a0
   have a1 := nb _ _ a1
   have p0 := nb _ _ p0
   have p1 := nb _ _ p1
   have p2 := nb _ _ p2
   have p3 := nb _ _ p3
   have y0 := nb _ _ y0
   have y1 := nb _ _ y1
   have y2 := nb _ _ y2
   have y3 := nb _ _ y3
   have rr2 := r2.upd hu NE.out.symm
   have t1 : SlI wc S p.2 aa := Sl.mono s1 (fun _ h _ => h) hu.size fun _ _ _ _ _ hc => nb _ _ hc
   have t2 : SlI wc S' q.2 ab := Sl.mono s2 (fun _ h _ => h) hu.size fun _ _ _ _ _ hc => nb _ _ hc
   clear nb
   go_wp2_with fail
   refine wp_region_tail 11 (by kernel_rfl) (by kernel_rfl) ?_
   intro I _ W hE hC
   have f0 := mild_cell hE b0
   have f1 := mild_cell hE b3
   have f2 := mild_cell hE a0
   have f3 := mild_cell hE a1
   have f4 := mild_cell hE p0
   have f5 := mild_cell hE p1
   have f6 := mild_cell hE p2
   have f7 := mild_cell hE p3
   have f8 := mild_cell hE y0
   have f9 := mild_cell hE y1
   have f10 := mild_cell hE y2
   have f11 := mild_cell hE y3
   simp only [List.take_succ_cons, List.take_zero, List.drop_succ_cons, List.drop_zero]
   repeat (go_big_quiet_step ((refine mild_call hE hC (greater_any S S' p.1.v p.1.f q.1.v q.1.f i k _ _ p.2 q.2 aa ab ca cb bc bs ba (setF f (i, k) (eqV f p q)) h _ rfl rfl ((hE _).some_ b2) ((hE _).some_ b3) (rr1.ext (hE _)) (rr2.ext (hE _)) m1 m2 (t1.ext (hE _)) n1 n2 (t2.ext (hE _)) HLEN.out))))
   refine wpQuiet_nil ?_
   rintro _ ⟨i1, rfl⟩
   change wpList _ _ _ _ _ (W i1)
   obtain ⟨m, hm, hmf⟩ := rr2.ext (hE i1)
   refine wpList_put (by rfl) (by rfl) _ _ _ (by rfl) hm pk_ok Tryz.underlying170 (↑i, ↑k) _ (by rfl) (by rfl) (by rfl) ?_
   intro w2 hw2 hg2
   go_wp2_with fail
   go_end0
   refine ⟨rfl, ?_, ?_, MapF.put hmf hw2⟩
   ·refine ((Upd.of_ext hxw).trans ?_).trans ((Upd.of_ext (hE i1)).trans (Upd.of_grown hg2 (.inr rfl)))
    exact ⟨hu.os, hu.tape, hu.output, hu.size, fun k hk hX => hu.block k hk fun e => hX (.inl e)⟩
   ·exact (rr1.ext (hE i1)).upd (X := fun b => b = ba) (Upd.of_grown hg2 rfl) NE.out
end Go.Proofs.YtmeekpinkfpnhabGreat
namespace Go.Proofs.YtmeekpinkfpnhabGreat
inductive Pts (L : List (Tm × List Int)) (i : Nat) : List Int → List Tm → Prop
 | nil : Pts L i [] []
 | cons {j : Nat} {u : Tm} {l : List Int} {us : List Tm} (hj : j < i) (hu : (L[j]?).map (·.1) = some u) (h : Pts L i l us) : Pts L i ((j : Int) :: l) (u :: us)
theorem Pts.of {L : List (Tm × List Int)} {i : Nat} : ∀ (us : List Tm) (l : List Int), l.length = us.length → (∀ (m : Nat) (u : Tm), us[m]? = some u → ∃ j : Nat, l[m]? = some (j : Int) ∧ j < i ∧ (L[j]?).map (·.1) = some u) → Pts L i l us
 | [], [], _, _ => .nil
 | [], _ :: _, h, _ => by simp at h
 | _ :: _, [], h, _ => by simp at h
 | u :: us, x :: l, h, H => by
  obtain ⟨j, h1, h2, h3⟩ := H 0 u rfl
  simp at h1
  subst h1
  exact .cons h2 h3 (Pts.of us l (by simpa using h) fun m v hv => by simpa using H (m + 1) v (by simpa using hv))
theorem WellN.pts {L : List (Tm × List Int)} {i : Nat} (h : WellN L i) (hi : i < L.length) : Pts L i L[i].2 L[i].1.us := by
 obtain ⟨h1, h2⟩ := h L[i] (List.getElem?_eq_getElem hi)
 exact Pts.of _ _ h1 h2
def Known (S T : List (Tm × List Int)) (f h : Int × Int → Bool) (D : Nat → Nat → Prop) : Prop :=
 ∀ (a b : Nat) (u v : Tm), D a b → (S[a]?).map (·.1) = some u → (T[b]?).map (·.1) = some v → f (a, b) = same u v ∧ h (a, b) = gt u v
section
variable {S T : List (Tm × List Int)} {f h : Int × Int → Bool} {D : Nat → Nat → Prop} {i k : Nat}
theorem Pts.zip_all (hK : Known S T f h D) (hD : ∀ a b, a < i → D a b) : ∀ {l : List Int} {us : List Tm}, Pts S i l us → ∀ {l' : List Int} {us' : List Tm}, Pts T k l' us' → (l.length == l'.length && (l.zip l').all f) = sameL us us' := by
 intro l us hl
 induction hl with
 | nil => intro l' us' hl'; cases hl' <;> simp [sameL]
 | cons hj hu _ ih =>
  intro l' us' hl'
  cases hl' with
  | nil => simp [sameL]
  | cons hj' hu' hl' =>
   have h1 := (hK _ _ _ _ (hD _ _ hj) hu hu').1
   have h2 := ih hl'
   rw [sameL, ← h2, ← h1]
   simp only [List.length_cons, List.zip_cons_cons, List.all_cons]
   rw [Bool.eq_iff_iff]
   simp
   exact ⟨fun ⟨a, b, c⟩ => ⟨b, a, c⟩, fun ⟨b, a, c⟩ => ⟨a, b, c⟩⟩
theorem Pts.any_s (hK : Known S T f h D) (hD : ∀ a b, a < i → D a b) {t : Tm} (ht : (T[k]?).map (·.1) = some t) : ∀ {l : List Int} {us : List Tm}, Pts S i l us → l.any (fun a => f (a, k) || h (a, k)) = us.any (fun a => same a t || gt a t) := by
 intro l us hl
 induction hl with
 | nil => rfl
 | cons hj hu _ ih =>
  obtain ⟨h1, h2⟩ := hK _ _ _ _ (hD _ k hj) hu ht
  rw [List.any_cons, List.any_cons, ih, h1, h2]
theorem Pts.any_t (hK : Known S T f h D) (hD : ∀ b, b < k → D i b) {s : Tm} (hs : (S[i]?).map (·.1) = some s) : ∀ {l : List Int} {us : List Tm}, Pts T k l us → l.any (fun b => !h (i, b)) = us.any (fun b => !gt s b) := by
 intro l us hl
 induction hl with
 | nil => rfl
 | cons hj hu _ ih =>
  obtain ⟨h1, h2⟩ := hK _ _ _ _ (hD _ hj) hs hu
  rw [List.any_cons, List.any_cons, ih, h2]
theorem Pts.lexi (hK : Known S T f h D) (hD : ∀ a b, a < i → D a b) : ∀ {l : List Int} {us : List Tm}, Pts S i l us → ∀ {l' : List Int} {us' : List Tm}, Pts T k l' us' → lexi f h l l' = lexG gt us us' := by
 intro l us hl
 induction hl with
 | nil => intro l' us' hl'; cases hl' <;> rfl
 | cons hj hu _ ih =>
  intro l' us' hl'
  cases hl' with
  | nil => rfl
  | cons hj' hu' hl' =>
   obtain ⟨h1, h2⟩ := hK _ _ _ _ (hD _ _ hj) hu hu'
   rw [YtmeekpinkfpnhabGreat.lexi, lexG, h1, h2, ih hl']
def lexlt (i k : Nat) (a b : Nat) : Prop := a < i ∨ (a = i ∧ b < k)
theorem setF_ne {x : Bool} {j l : Int × Int} (h : l ≠ j) : setF f j x l = f l := by simp [setF, h]
theorem setF_at {x : Bool} {j : Int × Int} : setF f j x j = x := by simp [setF]
theorem pair_ne {a b : Nat} (h : lexlt i k a b) : ((a : Int), (b : Int)) ≠ ((i : Int), (k : Int)) := by
 intro e
 simp only [Prod.mk.injEq] at e
 unfold lexlt at h
 omega
theorem Known.eqV (hK : Known S T f h (lexlt i k)) (hi : i < S.length) (hk : k < T.length) (hS : WellN S i) (hT : WellN T k) : eqV f S[i] T[k] = same S[i].1 T[k].1 := by
 rw [YtmeekpinkfpnhabGreat.eqV, same_eq, (hS.pts hi).zip_all hK (fun _ _ h => .inl h) (hT.pts hk)]
theorem Known.grP (hK : Known S T f h (lexlt i k)) (hi : i < S.length) (hk : k < T.length) (hS : WellN S i) (hT : WellN T k) : grP f h S[i] T[k] i k = gt S[i].1 T[k].1 := by
 rw [YtmeekpinkfpnhabGreat.grP, grV, gt_eq, gtStep, (hS.pts hi).any_s hK (fun _ _ h => .inl h) (t := T[k].1) (by simp [hk]), (hT.pts hk).any_t hK (fun _ h => .inr ⟨rfl, h⟩) (s := S[i].1) (by simp [hi]),
  (hS.pts hi).lexi hK (fun _ _ h => .inl h) (hT.pts hk)]
theorem Known.step (hK : Known S T f h (lexlt i k)) (hi : i < S.length) (hk : k < T.length) (hS : WellN S i) (hT : WellN T k) :
  Known S T (setF f (i, k) (YtmeekpinkfpnhabGreat.eqV f S[i] T[k])) (setF h (i, k) (YtmeekpinkfpnhabGreat.grP (setF f (i, k) (YtmeekpinkfpnhabGreat.eqV f S[i] T[k])) h S[i] T[k] i k)) (lexlt i (k + 1)) := by
 have hK' : Known S T (setF f (i, k) (YtmeekpinkfpnhabGreat.eqV f S[i] T[k])) h (lexlt i k) := fun a b u v hd hu hv => by
  rw [setF_ne (pair_ne hd)]
  exact hK a b u v hd hu hv
 rw [hK'.grP hi hk hS hT, hK.eqV hi hk hS hT]
 intro a b u v hd hu hv
 by_cases he : lexlt i k a b
 ·rw [setF_ne (pair_ne he), setF_ne (pair_ne he)]
  exact hK a b u v he hu hv
 ·obtain ⟨rfl, rfl⟩ : a = i ∧ b = k := by unfold lexlt at *; omega
  rw [setF_at, setF_at]
  simp [hi] at hu
  simp [hk] at hv
  subst hu hv
  exact ⟨rfl, rfl⟩
end
def Arit (L M : List (Tm × List Int)) : Prop := ∀ p ∈ L, ∀ q ∈ M, p.1.v ≤ 0 → q.1.v ≤ 0 → p.1.f = q.1.f → p.2.length = q.2.length
theorem arity {g : List Int} {t : Tm} (h : form g t = 0) {p : Tm × List Int} (hp : p ∈ pn t 0) (hv : p.1.v ≤ 0) : (p.2.length : Int) = g.getD p.1.f.toNat 0 := by
 have h1 : formOne g p.1.v p.1.f p.1.us.length = 0 := formAll_mem (by rw [formAll_parts]; exact h) p.1 (by rw [← pn_fst t 0]; exact List.mem_map.2 ⟨p, hp, rfl⟩)
 obtain ⟨i, hi, rfl⟩ := List.getElem_of_mem hp
 rw [((pn_well0 t i hi) _ (List.getElem?_eq_getElem hi)).1]
 generalize (pn t 0)[i] = p at *
 unfold formOne at h1
 split at h1
 ·split at h1
  ·cases h1
  ·omega
 ·split at h1
  ·cases h1
  ·split at h1
   ·cases h1
   ·rename_i hn; simpa using hn
theorem arit_form {g : List Int} {s t : Tm} (hs : form g s = 0) (ht : form g t = 0) : Arit (pn s 0) (pn t 0) := fun p hp q hq hv hw hf => by
 have h1 := arity hs hp hv
 have h2 := arity ht hq hw
 rw [hf, ← h2] at h1
 omega
theorem Known.last {s t : Tm} {f h : Int × Int → Bool} (hK : Known (pn s 0) (pn t 0) f h fun _ _ => True) : h (((pn s 0).length : Int) - 1, ((pn t 0).length : Int) - 1) = gt s t := by
 have e1 : (((pn s 0).length : Int) - 1) = ((tsz s - 1 : Nat) : Int) := by rw [pn_len]; have := tsz_pos s; unfold tsz at *; omega
 have e2 : (((pn t 0).length : Int) - 1) = ((tsz t - 1 : Nat) : Int) := by rw [pn_len]; have := tsz_pos t; unfold tsz at *; omega
 rw [e1, e2]
 exact (hK _ _ s t trivial (by rw [pn_last]; rfl) (by rw [pn_last]; rfl)).2
end Go.Proofs.YtmeekpinkfpnhabGreat
namespace Go.Proofs.YtmeekpinkfpnhabGreat
open Go.RowKit
theorem Own.ne_' {w : World} {base base' e e' sz sz' : Nat} {xs xs' : List Value} {v v' : Value} (h : Own w base e sz xs v) (h' : Own w base' e' sz' xs' v') (hne : e ≠ e') : v.ownBlock ≠ v'.ownBlock ∨ v.ownBlock = none := by
 rcases h.1.2 with ⟨rfl, _⟩ | ⟨g, cap, cur, rfl, _, hh, _⟩
 ·exact .inr rfl
 ·left
  rcases h'.1.2 with ⟨rfl, _⟩ | ⟨g', cap', cur', rfl, _, hh', _⟩
  ·simp [Value.ownBlock]
  ·intro e1
   have : g = g' := by simpa [Value.ownBlock] using e1
   subst this
   rw [hh] at hh'
   injection hh' with hh'
   injection hh' with _ h2
   exact hne h2
theorem grown_trans2 {a b c : World} {r r' : Option Nat} (h : a.grownBy b r) (hr : ∀ g, r' = some g → r = some g ∨ a.heap.size ≤ g) (k : b.grownBy c r') : a.grownBy c r :=
 ⟨k.os.trans h.os, k.tape.trans h.tape, k.output.trans h.output, Nat.le_trans h.size k.size, fun i hi hne => by
  have := h.size
  rw [k.block i (by omega) (fun e => by
   rcases hr i e.symm with h' | h'
   ·exact hne h'.symm
   ·omega), h.block i hi hne]⟩
structure VOk {α : Type} (V : World → (Nat → Prop) → α → Value → Prop) : Prop where
 keep : ∀ {w w' : World} {S S' : Nat → Prop} {t : α} {x : Value}, V w S t x → Keeps S w w' → (∀ b, S b → b < w.heap.size → S' b) → V w' S' t x
section
variable {α : Type} {V : World → (Nat → Prop) → α → Value → Prop} {w w' : World} {base e sz : Nat} {S S' : Nat → Prop} {ts : List α} {v : Value}
def OwnX (V : World → (Nat → Prop) → α → Value → Prop) (w : World) (base e sz : Nat) (S : Nat → Prop) (ts : List α) (v : Value) : Prop :=
 ∃ xs, Own w base e sz xs v ∧ xs.length = ts.length ∧ ∀ i (h : i < ts.length) (h' : i < xs.length), V w (fun b => S b ∧ some b ≠ v.ownBlock) ts[i] xs[i]
theorem OwnX.nil_ (V : World → (Nat → Prop) → α → Value → Prop) (w : World) (base e sz : Nat) (S : Nat → Prop) : OwnX V w base e sz S [] (.slice none 0 0) := ⟨[], Own.nil_ _ _ _ _, rfl, fun i h => absurd h (by simp)⟩
theorem OwnX.block (h : OwnX V w base e sz S ts v) {g : Nat} (hg : v.ownBlock = some g) : base ≤ g ∧ g < w.heap.size := by
 obtain ⟨xs, h1, _⟩ := h; exact h1.block hg
theorem OwnX.ext (hV : VOk V) (h : OwnX V w base e sz S ts v) (hx : Ext w w') : OwnX V w' base e sz S ts v := by
 obtain ⟨xs, h1, h2, h3⟩ := h
 exact ⟨xs, h1.ext hx, h2, fun i hi hi' => hV.keep (h3 i hi hi') (.ext hx) fun _ h _ => h⟩
theorem OwnX.grown (hV : VOk V) {r : Option Nat} (h : OwnX V w base e sz S ts v) (hg : w.grownBy w' r) (hne : v.ownBlock ≠ r ∨ v.ownBlock = none) (hS : ∀ b, S b → some b ≠ r) : OwnX V w' base e sz S ts v := by
 obtain ⟨xs, h1, h2, h3⟩ := h
 exact ⟨xs, h1.grown hg hne, h2, fun i hi hi' => hV.keep (h3 i hi hi') (Keeps.grown hg fun b hb => hS b hb.1) fun _ h _ => h⟩
theorem OwnX.grown2 (hV : VOk V) {r : Option Nat} (h : OwnX V w base e sz S ts v) (hg : w.grownBy w' r) (hne : v.ownBlock ≠ r ∨ v.ownBlock = none) (hS : ∀ b, S b → b < w.heap.size → some b ≠ r) (hS' : ∀ b, S b → b < w.heap.size → S' b) : OwnX V w' base e sz S' ts v := by
 obtain ⟨xs, h1, h2, h3⟩ := h
 refine ⟨xs, h1.grown hg hne, h2, fun i hi hi' => ?_⟩
 have := hV.keep (h3 i hi hi') (.ext (Ext.rfl' w)) (S' := fun b => (S b ∧ some b ≠ v.ownBlock) ∧ b < w.heap.size) (fun b hb hl => ⟨hb, hl⟩)
 exact hV.keep this (Keeps.grown hg fun b hb => hS b hb.1.1 hb.2) fun b hb _ => ⟨hS' b hb.1.1 hb.2, hb.1.2⟩
theorem OwnX.wide (hV : VOk V) (h : OwnX V w base e sz S ts v) (hS : ∀ b, S b → b < w.heap.size → S' b) : OwnX V w base e sz S' ts v := by
 obtain ⟨xs, h1, h2, h3⟩ := h
 exact ⟨xs, h1, h2, fun i hi hi' => hV.keep (h3 i hi hi') (.ext (Ext.rfl' w)) fun b hb hl => ⟨hS b hb.1 hl, hb.2⟩⟩
theorem OwnX.ne_ {β : Type} {V' : World → (Nat → Prop) → β → Value → Prop} {base' e' sz' : Nat} {ts' : List β} {v' : Value} {S2 : Nat → Prop} (h : OwnX V w base e sz S ts v) (h' : OwnX V' w base' e' sz' S2 ts' v') (hne : e ≠ e') : v.ownBlock ≠ v'.ownBlock ∨ v.ownBlock = none := by
 obtain ⟨xs, h1, _⟩ := h
 obtain ⟨xs', h1', _⟩ := h'
 exact Own.ne_' h1 h1' hne
theorem OwnX.slice (h : OwnX V w base e sz S ts v) : ∃ a cap, v = .slice a ts.length cap ∧ ts.length ≤ cap ∧ cap ≤ maxLen := by
 obtain ⟨xs, h1, h2, _⟩ := h
 rw [← h2]; exact h1.slice
theorem OwnX.push (hV : VOk V) {xs : List Value} {t : α} {y : Value} {g n cap : Nat}
  (h2 : xs.length = ts.length) (h3 : ∀ i (h : i < ts.length) (h' : i < xs.length), V w (fun b => S b ∧ some b ≠ v.ownBlock) ts[i] xs[i])
  (hy : V w S' t y) (hS : ∀ b, S' b → b < w.heap.size → S b ∧ some b ≠ v.ownBlock)
  (k1 : Own w' base e sz (xs ++ [y]) (.slice (some ⟨g, 0, none⟩) n cap)) (k2 : w.grownBy w' v.ownBlock) (k3 : v.ownBlock = some g ∨ w.heap.size < g) : OwnX V w' base e sz S (ts ++ [t]) (.slice (some ⟨g, 0, none⟩) n cap) := by
 have hk : Keeps (fun b => S b ∧ some b ≠ v.ownBlock) w w' := Keeps.grown k2 fun b hb => hb.2
 have hs : ∀ b, (S b ∧ some b ≠ v.ownBlock) → b < w.heap.size → (S b ∧ some b ≠ (Value.slice (some ⟨g, 0, none⟩) n cap).ownBlock) := by
  rintro b ⟨hb, hne⟩ hlt
  refine ⟨hb, fun e => ?_⟩
  have e' : b = g := by simpa [Value.ownBlock] using e
  subst e'
  rcases k3 with k3 | k3
  ·exact hne k3.symm
  ·omega
 refine ⟨xs ++ [y], k1, by simp [h2], fun i hi hi' => ?_⟩
 by_cases hlt : i < ts.length
 ·rw [List.getElem_append_left hlt, List.getElem_append_left (by omega)]
  exact hV.keep (h3 i hlt (by omega)) hk hs
 ·obtain rfl : i = ts.length := by have := hi; rw [List.length_append, List.length_singleton] at this; omega
  have e1 : (ts ++ [t])[ts.length] = t := by simp
  have e2 : (xs ++ [y])[ts.length]'hi' = y := by simp [← h2]
  rw [e1, e2]
  exact hV.keep (hV.keep hy (.ext (Ext.rfl' w)) hS) hk hs
theorem OwnX.sl {R : α → Addr → Prop} (h : OwnX V w base e sz S ts v)
  (hR : ∀ (t : α) (x : Value) (b o : Nat), V w (fun b => S b ∧ some b ≠ v.ownBlock) t x → x.cells.size = sz → (∀ j, j < sz → w.cell? ⟨b, o + j, none⟩ = x.cells[j]?) → R t ⟨b, o, none⟩) :
  ∃ a cap, v = .slice a ts.length cap ∧ ts.length ≤ cap ∧ cap ≤ maxLen ∧ Sl w (fun b => v.ownBlock = some b) sz R ts a := by
 obtain ⟨xs, h1, h2, h3⟩ := h
 rcases h1.form with ⟨rfl, rfl⟩ | ⟨g, cap, rfl, hb, hlt, hc1, hc2⟩
 ·have : ts = [] := List.eq_nil_of_length_eq_zero (by simpa using h2.symm)
  subst this
  exact ⟨none, 0, rfl, by simp, by simp [maxLen], Sl.nil_⟩
 ·refine ⟨some ⟨g, 0, none⟩, cap, by rw [h2], by omega, hc2, fun i hi => ⟨g, 0, rfl, rfl, hlt, ?_⟩⟩
  have hi' : i < xs.length := by omega
  exact hR _ _ _ _ (h3 i hi hi') (h1.2 _ (List.getElem_mem hi')) fun j hj => by
   have := h1.cell hi' hj
   rwa [Nat.zero_add]
end
abbrev No' : Nat → Prop := fun _ => False
def IntV (_ : World) (_ : Nat → Prop) (n : Int) (x : Value) : Prop := x = .int .i64 n
theorem vok_int : VOk IntV := ⟨fun h _ _ => h⟩
theorem OwnX.slI {w : World} {base e : Nat} {S : Nat → Prop} {ts : List Int} {v : Value} (h : OwnX IntV w base e 1 S ts v) : SlIV w (fun b => v.ownBlock = some b) ts v := by
 obtain ⟨a, cap, h1, h2, h3, h4⟩ := h.sl (R := IntC w) fun t x b o hx _ hc => by
  have := hc 0 (by omega)
  rw [hx] at this
  exact this
 exact ⟨a, cap, h1, h2, h3, h4⟩
theorem wpList_push' {P : Program} {t e sz bytes : Nat} (hE : ElemOk P t e sz bytes) {ops : Array Oper} {rest : List Oper} {o : Oper} {a : Act} {Q : Exit → Act → World → Prop} (hgd : o.guard = none) (s x : Operand)
  (ho : o.op = .call { callee := .builtin .append, args := #[s, x], argTypes := #[t, t] }) {w : World} {cs : Array Value} (y : Value) (hcs : y.cells = cs) (hy : cs.size = sz) (h1 : ∀ u ∈ cs.toList, u.oneCell' = true)
  {base : Nat} {v : Value} {xs : List Value} (hs : a.eval s = v) (hown : Own w base e sz xs v) (hx : a.eval x = .slice (some ⟨w.heap.size, 0, none⟩) 1 1)
  (hbytes : (xs.length + 1) * bytes ≤ 140737488355328) (hlen : xs.length + 1 ≤ maxLen) (hbase : base ≤ w.heap.size)
  (k : ∀ g cap w', Own w' base e sz (xs ++ [y]) (.slice (some ⟨g, 0, none⟩) (xs.length + 1) cap) → w.grownBy w' v.ownBlock → (v.ownBlock = some g ∨ w.heap.size < g) → g < w'.heap.size →
   wpList P ops Q rest (a.put o.dst (.slice (some ⟨g, 0, none⟩) (xs.length + 1) cap)) w') : wpList P ops Q (o :: rest) a (w.alloc (.cells cs e)) := by
 subst hcs
 exact wpList_push hE hgd s x ho y hy h1 hs hown hx hbytes hlen hbase k
end Go.Proofs.YtmeekpinkfpnhabGreat

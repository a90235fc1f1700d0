/- A law for a region that draws its order: first operations that only read, or call what only makes memory and answers one value, or make something new; behind all of them the rest, one after the other. Walk of package order: Above. The numbers of the arguments of all parts. Lists of one's own: a place is written, another list is appended. Walk of superposeref: ArgsOf. Contracts of the first road (X) as contracts on pure values: the order, numbers of arguments. order.Greater, order.Compare. -/
import Derived.Test.YtmeekpinkfpnhaaB05
import Derived.Test.YtmeekpinkfpnhaaB07
import Derived.Test.YtmeekpinkfpnhaaB10
set_option linter.unusedSimpArgs false
set_option linter.unusedSectionVars false
set_option linter.unusedVariables false
set_option linter.unnecessarySimpa false
set_option linter.all false
namespace Go.Proofs.Ytmeekpinkfpnhaa
open Go.RowKit
/-! ### the combinatorial part -/
section
variable {pops : Array Oper} {gd : Nat → Option Tmp} {Yd : Nat → Value → Act → Prop} {Fin : Act → Prop}
def AnyY (pops : Array Oper) (gd : Nat → Option Tmp) (Yd : Nat → Value → Act → Prop) (Fin : Act → Prop) : Nat → Array Bool → Act → Prop
  | 0, listed, a => Region.ready .any pops listed = [] ∧ Fin a
  | f + 1, listed, a => (Region.ready .any pops listed = [] → Fin a) ∧ ∀ i ∈ Region.ready .any pops listed, ∃ v, Yd i v a ∧ AnyY pops gd Yd Fin f (listed.setIfInBounds i true) (a.put (gd i) v)
theorem anyY_first (hgd : ∀ i o, pops[i]? = some o → gd i = none ∨ gd i = o.dst)
    (hloc : ∀ i o, pops[i]? = some o → ∀ v a d u, (∀ t, d = some t → t ∉ o.looksAt pops) → (Yd i v (a.put d u) ↔ Yd i v a)) {i : Nat} {oi : Oper} {v : Value} (hi : pops[i]? = some oi) :
    ∀ (f : Nat) (listed : Array Bool) (a : Act), (∀ j oj, pops[j]? = some oj → j ≠ i → listed.getD j true = false → (∀ e ∈ oj.after, Region.binds .any e = true → e.on ≠ i) → oi.apart pops oj = true) →
      i ∈ Region.ready .any pops listed → Yd i v a → AnyY pops gd Yd Fin f (listed.setIfInBounds i true) (a.put (gd i) v) → AnyY pops gd Yd Fin (f + 1) listed a := by
  have hmem : ∀ {i o t}, pops[i]? = some o → gd i = some t → o.dst = some t := by
    intro i o t ho ht
    rcases hgd i o ho with h | h
    · rw [h] at ht; cases ht
    · rw [← h]; exact ht
  intro f
  induction f with
  | zero =>
    intro listed a _ hr hy H
    refine ⟨fun h => (by rw [h] at hr; cases hr), fun j hj => ?_⟩
    by_cases hji : j = i
    · subst hji; exact ⟨v, hy, H⟩
    · have := ready_mono hj hji
      rw [H.1] at this
      cases this
  | succ f ih =>
    intro listed a hfree hr hy H
    refine ⟨fun h => (by rw [h] at hr; cases hr), fun j hj => ?_⟩
    by_cases hji : j = i
    · subst hji; exact ⟨v, hy, H⟩
    · obtain ⟨u, hu, hn⟩ := H.2 j (ready_mono hj hji)
      obtain ⟨hjun, oj, hoj, hall⟩ := mem_ready.1 hj
      have hnot : ∀ e ∈ oj.after, Region.binds .any e = true → e.on ≠ i := fun e he hb heq => by
        have h1 := hall e he hb
        rw [heq, getD_both (mem_ready.1 hr).1] at h1
        cases h1
      obtain ⟨p1, p2, p3⟩ := Oper.apart_spec (hfree j oj hoj hji hjun hnot)
      refine ⟨u, (hloc j oj hoj u a (gd i) v (fun t ht => p1 t (hmem hi ht))).1 hu, ih (listed.setIfInBounds j true) (a.put (gd j) u) ?_ (ready_mono hr (Ne.symm hji))
        ((hloc i oi hi v a (gd j) u (fun t ht => p3 t (hmem hoj ht))).2 hy) ?_⟩
      · intro k ok hk hki hun hno
        refine hfree k ok hk hki ?_ hno
        by_cases hjk : j = k
        · subst hjk; exact hjun
        · rw [getD_set_ne true hjk] at hun; exact hun
      · rw [Array.setIfInBounds_comm _ _ hji, ← Act.put_comm a v u (fun t ht h => p2 t (hmem hi ht) (hmem hoj h))]
        exact hn
def TextY (gd : Nat → Option Tmp) (Yd : Nat → Value → Act → Prop) (Fin : Act → Prop) : Nat → Nat → Act → Prop
  | 0, _, a => Fin a
  | r + 1, k, a => ∃ v, Yd k v a ∧ TextY gd Yd Fin r (k + 1) (a.put (gd k) v)
theorem anyY_lex (hgd : ∀ i o, pops[i]? = some o → gd i = none ∨ gd i = o.dst)
    (hloc : ∀ i o, pops[i]? = some o → ∀ v a d u, (∀ t, d = some t → t ∉ o.looksAt pops) → (Yd i v (a.put d u) ↔ Yd i v a)) :
    ∀ (r k : Nat) (listed : Array Bool) (a : Act), Region.lexFrom .any pops r k listed = true → TextY gd Yd Fin r k a → AnyY pops gd Yd Fin r listed a
  | 0, _, _, _, hB, h => ⟨by simpa [Region.lexFrom] using hB, h⟩
  | r + 1, k, listed, a, hB, h => by
    simp only [Region.lexFrom, Bool.and_eq_true] at hB
    obtain ⟨⟨hr, hf⟩, hB'⟩ := hB
    have hr' : k ∈ Region.ready .any pops listed := by simpa using hr
    obtain ⟨_, o, ho, _⟩ := mem_ready.1 hr'
    obtain ⟨v, hy, hK⟩ := h
    exact anyY_first hgd hloc ho r listed a (Region.free_spec ho hf) hr' hy (anyY_lex hgd hloc r (k + 1) _ _ hB' hK)
end
/-! ### operations that make something new -/
def freshUpon (P : Program) (Φ : Value → Nat → Nat → World → Prop) (w : World) : Result Next → Prop
  | .ok (.value v) w' => Φ v w.heap.size w'.heap.size w' ∧ Ext w w'
  | .ok (.enter f args) w' => w' = w ∧ Calls P f args w fun e w'' => ∃ v, e = .returned v ∧ Φ v w.heap.size w''.heap.size w'' ∧ Ext w w''
  | _ => False
def FreshAt (P : Program) (C : World → Prop) (Φ : Value → Nat → Nat → World → Prop) (o : Oper) (a : Act) : Prop := ∀ w, C w → freshUpon P Φ w ((execOp a.eval o).run P w)
def over (F : List (Nat × Tmp)) (V : Nat → Value) (listed : Array Bool) (a : Act) : Act := F.foldl (fun a p => if listed.getD p.1 false = true then a.put (some p.2) (V p.1) else a) a
section
variable {P : Program} {pops : Array Oper} {V : Nat → Value} {listed : Array Bool}
theorem over_exec (o : Oper) (hs : ∀ cs b, o.op ≠ .select cs b) : ∀ (F : List (Nat × Tmp)) (a : Act), (∀ p ∈ F, p.2 ∉ o.looksAt pops) → execOp (over F V listed a).eval o = execOp a.eval o
  | [], _, _ => rfl
  | p :: F, a, h => by
    unfold over
    rw [List.foldl_cons]
    have h2 := over_exec o hs F (if listed.getD p.1 false = true then a.put (some p.2) (V p.1) else a) (fun q hq => h q (by simp [hq]))
    unfold over at h2
    rw [h2]
    split
    · exact execOp_put o hs a _ _ fun d hd => by cases hd; exact h p (by simp)
    · rfl
theorem over_wanted (o : Oper) : ∀ (F : List (Nat × Tmp)) (a : Act), (∀ p ∈ F, p.2 ∉ o.looksAt pops) → Region.wanted o (yielded pops (over F V listed a).tmps) = Region.wanted o (yielded pops a.tmps)
  | [], _, _ => rfl
  | p :: F, a, h => by
    unfold over
    rw [List.foldl_cons]
    have h2 := over_wanted o F (if listed.getD p.1 false = true then a.put (some p.2) (V p.1) else a) (fun q hq => h q (by simp [hq]))
    unfold over at h2
    rw [h2]
    split
    · exact wanted_put o a _ _ fun d hd => by cases hd; exact h p (by simp)
    · rfl
theorem over_put (d : Option Tmp) (v : Value) : ∀ (F : List (Nat × Tmp)) (a : Act), (∀ p ∈ F, d ≠ some p.2) → (over F V listed a).put d v = over F V listed (a.put d v)
  | [], _, _ => rfl
  | p :: F, a, h => by
    unfold over
    rw [List.foldl_cons, List.foldl_cons]
    have h2 := over_put d v F (if listed.getD p.1 false = true then a.put (some p.2) (V p.1) else a) (fun q hq => h q (by simp [hq]))
    unfold over at h2
    rw [h2]
    congr 1
    split
    · exact Act.put_comm a _ _ fun t ht e => h p (by simp) (by rw [e, ht])
    · rfl
theorem over_congr {V' : Nat → Value} {listed' : Array Bool} : ∀ (F : List (Nat × Tmp)) (a : Act), (∀ p ∈ F, V p.1 = V' p.1 ∧ listed.getD p.1 false = listed'.getD p.1 false) → over F V listed a = over F V' listed' a
  | [], _, _ => rfl
  | p :: F, a, h => by
    unfold over
    rw [List.foldl_cons, List.foldl_cons, (h p (by simp)).1, (h p (by simp)).2]
    exact over_congr F _ fun q hq => h q (by simp [hq])
theorem over_new {i : Nat} {t : Tmp} {v : Value} (hlt : i < listed.size) (hun : listed.getD i false = false) : ∀ (F : List (Nat × Tmp)) (a : Act), (F.map (·.1)).Nodup → (F.map (·.2)).Nodup → (i, t) ∈ F →
    (over F V listed a).put (some t) v = over F (fun j => if j = i then v else V j) (listed.setIfInBounds i true) a
  | [], _, _, _, h => by cases h
  | p :: F, a, h1, h2, h => by
    simp only [List.map_cons, List.nodup_cons] at h1 h2
    by_cases hp : p = (i, t)
    · subst hp
      have e1 : over ((i, t) :: F) V listed a = over F V listed a := by
        unfold over
        rw [List.foldl_cons, if_neg (by simp only [hun]; exact Bool.false_ne_true)]
      have e2 : over ((i, t) :: F) (fun j => if j = i then v else V j) (listed.setIfInBounds i true) a = over F (fun j => if j = i then v else V j) (listed.setIfInBounds i true) (a.put (some t) v) := by
        unfold over
        rw [List.foldl_cons, if_pos (by simp [hlt])]
        simp
      rw [e1, e2, over_put _ _ F a (fun q hq e => h2.1 (by cases e; exact List.mem_map.2 ⟨q, hq, rfl⟩))]
      refine over_congr F _ fun q hq => ?_
      have hne : q.1 ≠ i := fun e => h1.1 (List.mem_map.2 ⟨q, hq, e⟩)
      exact ⟨by simp [hne], (getD_set_ne false (Ne.symm hne)).symm⟩
    · have hF : (i, t) ∈ F := by
        rcases List.mem_cons.1 h with h | h
        · exact absurd h.symm hp
        · exact h
      have hne : p.1 ≠ i := fun e => h1.1 (by rw [e]; exact List.mem_map.2 ⟨_, hF, rfl⟩)
      have h3 := over_new (v := v) hlt hun F (if listed.getD p.1 false = true then a.put (some p.2) (V p.1) else a) h1.2 h2.2 hF
      unfold over at h3 ⊢
      rw [List.foldl_cons, List.foldl_cons, h3]
      congr 1
      rw [getD_set_ne false (Ne.symm hne)]
      simp [hne]
end
/-! ### the two together -/
def frOf (F : List (Nat × Tmp)) (i : Nat) : Bool := F.any (·.1 == i)
theorem frOf_mem {F : List (Nat × Tmp)} {i : Nat} (h : frOf F i = true) : ∃ t, (i, t) ∈ F := by
  obtain ⟨p, hp, he⟩ := List.any_eq_true.1 h
  have : p.1 = i := by simpa using he
  exact ⟨p.2, by rw [← this]; exact hp⟩
theorem frOf_of {F : List (Nat × Tmp)} {p : Nat × Tmp} (h : p ∈ F) : frOf F p.1 = true := List.any_eq_true.2 ⟨p, h, by simp⟩
def gdOf (pops : Array Oper) (F : List (Nat × Tmp)) (i : Nat) : Option Tmp := if frOf F i then none else (pops[i]?).bind (·.dst)
def YdOf (P : Program) (C : World → Prop) (pops : Array Oper) (F : List (Nat × Tmp)) (Φ : Nat → Value → Nat → Nat → World → Prop) (i : Nat) (v : Value) (a : Act) : Prop :=
  match pops[i]? with
  | none => True
  | some o => if frOf F i then FreshAt P C (Φ i) o a else YieldsIn P pops C o v a
def wpMix (P : Program) (pops : Array Oper) (C : World → Prop) (F : List (Nat × Tmp)) (Φ : Nat → Value → Nat → Nat → World → Prop) (Fin : Act → Prop) : List Oper → Nat → Act → Prop
  | [], _, a => Fin a
  | o :: l, k, a => if frOf F k then FreshAt P C (Φ k) o a ∧ wpMix P pops C F Φ Fin l (k + 1) a
    else if Region.wanted o (yielded pops a.tmps) then o.quiet P a C (wpMix P pops C F Φ Fin l (k + 1)) else wpMix P pops C F Φ Fin l (k + 1) (a.put o.dst undef)
section
variable {P : Program} {pops : Array Oper} {C : World → Prop} {F : List (Nat × Tmp)} {Φ : Nat → Value → Nat → Nat → World → Prop} {Fin : Act → Prop}
theorem wpMix_nil {k : Nat} {a : Act} (h : Fin a) : wpMix P pops C F Φ Fin [] k a := h
theorem wpMix_want {o : Oper} {l : List Oper} {k : Nat} {a : Act} (hf : frOf F k = false) (hw : Region.wanted o (yielded pops a.tmps) = true) (h : ∀ K : Act → Prop, (∀ a, wpMix P pops C F Φ Fin l (k + 1) a → K a) → o.quiet P a C K) : wpMix P pops C F Φ Fin (o :: l) k a := by
  unfold wpMix
  rw [if_neg (by simp [hf]), if_pos hw]
  exact h _ fun _ h => h
theorem wpMix_skip {o : Oper} {l : List Oper} {k : Nat} {a : Act} (hf : frOf F k = false) (hw : Region.wanted o (yielded pops a.tmps) = false) (h : wpMix P pops C F Φ Fin l (k + 1) (a.put o.dst undef)) : wpMix P pops C F Φ Fin (o :: l) k a := by
  unfold wpMix
  rw [if_neg (by simp [hf]), if_neg (by simp [hw])]
  exact h
theorem wpMix_fresh {o : Oper} {l : List Oper} {k : Nat} {a : Act} (hf : frOf F k = true) (h1 : ∀ w, C w → freshUpon P (Φ k) w ((execOp a.eval o).run P w)) (h2 : wpMix P pops C F Φ Fin l (k + 1) a) : wpMix P pops C F Φ Fin (o :: l) k a := by
  unfold wpMix
  rw [if_pos hf]
  exact ⟨h1, h2⟩
theorem textY_of_mix : ∀ (l : List Oper) (k : Nat) (a : Act), (∀ j, l[j]? = pops[k + j]?) → wpMix P pops C F Φ Fin l k a → TextY (gdOf pops F) (YdOf P C pops F Φ) Fin l.length k a
  | [], _, _, _, h => h
  | o :: l, k, a, hl, h => by
    have h0 : pops[k]? = some o := by simpa using (hl 0).symm
    have hrec : ∀ a, wpMix P pops C F Φ Fin l (k + 1) a → TextY (gdOf pops F) (YdOf P C pops F Φ) Fin l.length (k + 1) a := fun a => textY_of_mix l (k + 1) a (fun j => by have := hl (j + 1); simpa [Nat.add_assoc, Nat.add_comm 1 j] using this)
    simp only [List.length_cons, TextY]
    unfold wpMix at h
    by_cases hf : frOf F k = true
    · rw [if_pos hf] at h
      refine ⟨undef, ?_, ?_⟩
      · simp only [YdOf, h0, hf, if_true]; exact h.1
      · have : gdOf pops F k = none := by simp [gdOf, hf]
        rw [this]
        exact hrec _ h.2
    · rw [if_neg hf] at h
      have hg : gdOf pops F k = o.dst := by simp [gdOf, hf, h0]
      by_cases hw : Region.wanted o (yielded pops a.tmps) = true
      · rw [if_pos hw] at h
        obtain ⟨v, h1, h2⟩ := h
        refine ⟨v, ?_, by rw [hg]; exact hrec _ h2⟩
        simp only [YdOf, h0, hf, Bool.false_eq_true, if_false]
        exact .inl ⟨hw, h1⟩
      · rw [if_neg hw] at h
        refine ⟨undef, ?_, by rw [hg]; exact hrec _ h⟩
        simp only [YdOf, h0, hf, Bool.false_eq_true, if_false]
        exact .inr ⟨by simpa using hw, rfl⟩
end
def sepB (pops : Array Oper) (F : List (Nat × Tmp)) : Bool :=
  ((List.range pops.size).all fun i => match pops[i]? with
    | some o => F.all fun p => !(o.looksAt pops).contains p.2 && (p.1 == i || o.dst != some p.2)
    | none => true) &&
  (F.all fun p => match pops[p.1]? with
    | some o => o.dst == some p.2 && o.guard.isNone
    | none => false) && decide ((F.map (·.1)).Nodup) && decide ((F.map (·.2)).Nodup)
section
variable {P : Program} {ops pops : Array Oper} {Q : Exit → Act → World → Prop} {n : Nat} {w0 : World} {F : List (Nat × Tmp)} {Φ : Nat → Value → Nat → Nat → World → Prop} {Fin : Act → Prop}
structure Came (w0 : World) (F : List (Nat × Tmp)) (Φ : Nat → Value → Nat → Nat → World → Prop) (listed : Nat → Bool) (V : Nat → Value) (lo hi : Nat → Nat) (w : World) : Prop where
  each : ∀ p ∈ F, listed p.1 = true → Φ p.1 (V p.1) (lo p.1) (hi p.1) w ∧ w0.heap.size ≤ lo p.1 ∧ hi p.1 ≤ w.heap.size
  apart : ∀ p ∈ F, ∀ q ∈ F, listed p.1 = true → listed q.1 = true → p.1 ≠ q.1 → hi p.1 ≤ lo q.1 ∨ hi q.1 ≤ lo p.1
theorem wpAny_fresh (hn : n ≤ ops.size) (hpn : pops.size = n) (hp : ∀ i, i < n → pops[i]? = ops[i]?) (hback : backB ops = true) (hsink : Region.sinkB .any ops n = true) (hchain : Region.chainB .any ops n = true)
    (hnlt : n < ops.size) (hsel : Region.noSelect pops = true) (hsep : sepB pops F = true) (hpl : ∀ i o, pops[i]? = some o → frOf F i = false → plainOp o.op = true) (hΦ : ∀ i v l h w w', Φ i v l h w → Ext w w' → Φ i v l h w')
    (hQ : ∀ a V lo hi w, Ext w0 w → Came w0 F Φ (fun _ => true) V lo hi w → Fin a → wpList P ops Q (ops.toList.drop n) (F.foldl (fun a p => a.put (some p.2) (V p.1)) a) w) :
    ∀ (fuel : Nat) (listed : Array Bool) (a : Act) (V : Nat → Value) (lo hi : Nat → Nat) (w : World), Ext w0 w → HeadInv .any ops n listed → Came w0 F Φ (fun i => listed.getD i false) V lo hi w →
      AnyY pops (gdOf pops F) (YdOf P (Ext w0) pops F Φ) Fin fuel listed a → wpAny P .any ops Q (fuel + (ops.size - n)) listed (over F V listed a) w := by
  simp only [sepB, Bool.and_eq_true, decide_eq_true_eq] at hsep
  obtain ⟨⟨⟨hs1, hs2⟩, hs3⟩, hs4⟩ := hsep
  have hlook : ∀ i o, pops[i]? = some o → ∀ p ∈ F, p.2 ∉ o.looksAt pops ∧ (p.1 ≠ i → o.dst ≠ some p.2) := by
    intro i o ho p hpF
    have hlt : i < pops.size := (Array.getElem?_eq_some_iff.1 ho).1
    have h1 := List.all_eq_true.1 hs1 i (List.mem_range.2 hlt)
    rw [ho] at h1
    have h2 := List.all_eq_true.1 h1 p hpF
    simp only [Bool.and_eq_true, Bool.or_eq_true, beq_iff_eq, bne_iff_ne, Bool.not_eq_true', ne_eq] at h2
    refine ⟨fun hc => ?_, fun hne => ?_⟩
    · have := h2.1
      rw [List.contains_iff_mem.2 hc] at this
      cases this
    · rcases h2.2 with h | h
      · exact absurd h hne
      · exact h
  have hF : ∀ p ∈ F, ∃ o, pops[p.1]? = some o ∧ o.dst = some p.2 ∧ o.guard = none := by
    intro p hpF
    have h1 := List.all_eq_true.1 hs2 p hpF
    cases ho : pops[p.1]? with
    | none => rw [ho] at h1; cases h1
    | some o =>
      rw [ho] at h1
      simp only [Bool.and_eq_true, beq_iff_eq, Option.isNone_iff_eq_none] at h1
      exact ⟨o, rfl, h1.1, h1.2⟩
  have hrd : ∀ listed i, i < n → (i ∈ Region.ready .any pops listed ↔ i ∈ Region.ready .any ops listed) := by
    intro listed i hi
    rw [mem_ready, mem_ready, hp i hi]
  have hlt : ∀ listed i, i ∈ Region.ready .any pops listed → i < n := by
    intro listed i hi
    obtain ⟨_, o, ho, _⟩ := mem_ready.1 hi
    have := (Array.getElem?_eq_some_iff.1 ho).1
    omega
  have hdone : ∀ (fuel : Nat) (listed : Array Bool) (a : Act) (V : Nat → Value) (lo hi : Nat → Nat) (w : World), ops.size - n ≤ fuel → Ext w0 w → HeadInv .any ops n listed → Came w0 F Φ (fun i => listed.getD i false) V lo hi w →
      Region.ready .any pops listed = [] → Fin a → wpAny P .any ops Q fuel listed (over F V listed a) w := by
    intro fuel listed a V lo hi w hf hC inv hcm hr hq
    have hall : ∀ i, i < n → listed.getD i false = true := by
      intro i
      induction i using Nat.strongRecOn with
      | _ i ih =>
        intro hi
        by_cases hl : listed.getD i false = true
        · exact hl
        · exfalso
          have hio : ops[i]? = some (ops[i]'(by omega)) := Array.getElem?_eq_getElem (by omega)
          have : i ∈ Region.ready .any pops listed := (hrd listed i hi).2 (mem_ready.2 ⟨getD_in (by rw [inv.size]; omega) (by simpa using hl), _, hio, fun e he hb => by
            have := backB_spec hback hio e he hb
            exact ih _ this (by omega)⟩)
          rw [hr] at this
          cases this
    have hFn : ∀ p ∈ F, p.1 < n := fun p hpF => by
      obtain ⟨o, ho, _⟩ := hF p hpF
      have := (Array.getElem?_eq_some_iff.1 ho).1
      omega
    have e : over F V listed a = F.foldl (fun a p => a.put (some p.2) (V p.1)) a := by
      have : ∀ (G : List (Nat × Tmp)) (a : Act), (∀ p ∈ G, p.1 < n) → over G V listed a = G.foldl (fun a p => a.put (some p.2) (V p.1)) a := by
        intro G
        induction G with
        | nil => intro a _; rfl
        | cons p G ih =>
          intro a h
          unfold over
          rw [List.foldl_cons, List.foldl_cons, if_pos (hall _ (h p (by simp)))]
          exact ih _ fun q hq => h q (by simp [hq])
      exact this F a hFn
    rw [e]
    refine wpAny_tail hback hchain (ops.size - n) n fuel listed _ w (ops.toList.drop n) (by omega) (Nat.le_refl _) hf inv.size hall inv.tail (fun j => by simp) (hQ a V lo hi w hC ⟨fun p hpF _ => hcm.each p hpF (hall _ (hFn p hpF)), fun p hpF q hqF _ _ => hcm.apart p hpF q hqF (hall _ (hFn p hpF)) (hall _ (hFn q hqF))⟩ hq)
  intro fuel
  induction fuel with
  | zero =>
    intro listed a V lo hi w hC inv hcm h
    exact hdone _ listed a V lo hi w (by omega) hC inv hcm h.1 h.2
  | succ fuel ih =>
    intro listed a V lo hi w hC inv hcm h
    by_cases hr : Region.ready .any pops listed = []
    · exact hdone _ listed a V lo hi w (by omega) hC inv hcm hr (h.1 hr)
    · obtain ⟨i0, hi0⟩ := List.exists_mem_of_ne_nil _ hr
      have hun := (mem_ready.1 ((hrd listed i0 (hlt _ _ hi0)).1 hi0)).1
      have htail : ∀ j ∈ Region.ready .any ops listed, j < n := by
        intro j hj
        rcases Nat.lt_or_ge j n with h | h
        · exact h
        · exact absurd hj (tail_waits hsink hchain hnlt inv _ i0 rfl (hlt _ _ hi0) hun j h)
      rw [show fuel + 1 + (ops.size - n) = (fuel + (ops.size - n)) + 1 by omega]
      refine ⟨fun h0 => (by have := (hrd listed i0 (hlt _ _ hi0)).1 hi0; rw [h0] at this; cases this), fun i hir => ?_⟩
      have hin := htail i hir
      have hiP := (hrd listed i hin).2 hir
      obtain ⟨v, hy, hnx⟩ := h.2 i hiP
      obtain ⟨hiu, o, ho, _⟩ := mem_ready.1 hiP
      have hns : ∀ cs b, o.op ≠ .select cs b := fun cs b => Region.noSelect_spec hsel i o cs b ho
      have hlo := hlook i o ho
      have hex := over_exec (pops := pops) (V := V) (listed := listed) o hns F a (fun p hpF => (hlo p hpF).1)
      have hsz : i < listed.size := by rw [inv.size]; omega
      unfold wpOp
      rw [← hp i hin, ho]
      simp only
      by_cases hf : frOf F i = true
      · obtain ⟨t, ht⟩ := frOf_mem hf
        obtain ⟨o', ho', hd, hg⟩ := hF _ ht
        obtain rfl : o' = o := Option.some.inj (ho'.symm.trans ho)
        have hgd : gdOf pops F i = none := by simp [gdOf, hf]
        rw [hgd] at hnx
        simp only [YdOf, ho, hf, if_true] at hy
        rw [if_pos (by simp [Region.wanted, hg])]
        left
        have hu := hy w hC
        rw [← hex] at hu
        have hgo : ∀ u w', Φ i u w.heap.size w'.heap.size w' → Ext w w' → wpAny P .any ops Q (fuel + (ops.size - n)) (listed.setIfInBounds i true) ((over F V listed a).put o'.dst u) w' := by
          intro u w' hphi hx
          rw [hd, over_new hsz (getD_both hiu) F a hs3 hs4 ht]
          refine ih _ a _ (fun j => if j = i then w.heap.size else lo j) (fun j => if j = i then w'.heap.size else hi j) w' (hC.step hx) (inv.set hir hin) ⟨?_, ?_⟩ hnx
          · intro p hpF hl
            by_cases hpi : p.1 = i
            · simp only [hpi, if_true]
              exact ⟨hphi, hC.size, Nat.le_refl _⟩
            · simp only [hpi, if_false]
              rw [getD_set_ne false (Ne.symm hpi)] at hl
              obtain ⟨q1, q2, q3⟩ := hcm.each p hpF hl
              exact ⟨hΦ _ _ _ _ _ _ q1 hx, q2, Nat.le_trans q3 hx.size⟩
          · intro p hpF q hqF hl hl' hne
            by_cases hpi : p.1 = i
            · have hqi : q.1 ≠ i := fun e => hne (hpi.trans e.symm)
              simp only [hpi, hqi, if_true, if_false]
              rw [getD_set_ne false (Ne.symm hqi)] at hl'
              exact .inr (hcm.each q hqF hl').2.2
            · by_cases hqi : q.1 = i
              · simp only [hpi, hqi, if_true, if_false]
                rw [getD_set_ne false (Ne.symm hpi)] at hl
                exact .inl (hcm.each p hpF hl).2.2
              · simp only [hpi, hqi, if_false]
                rw [getD_set_ne false (Ne.symm hpi)] at hl
                rw [getD_set_ne false (Ne.symm hqi)] at hl'
                exact hcm.apart p hpF q hqF hl hl' hne
        unfold Oper.wp
        generalize (execOp (over F V listed a).eval o').run P w = r at *
        cases r with
        | ok x w' =>
          cases x <;> simp only [freshUpon] at hu <;> simp only [Oper.upon]
          case value u => exact hgo u w' hu.1 hu.2
          case enter f args =>
            obtain ⟨e1, hc⟩ := hu
            rw [e1]
            exact hc.mono fun e w'' ⟨u, he, h1, h2⟩ => by subst he; exact hgo u w'' h1 h2
        | halt x w' => simp only [freshUpon] at hu
      · have hgd : gdOf pops F i = o.dst := by simp [gdOf, hf, ho]
        rw [hgd] at hnx
        simp only [YdOf, ho, hf, Bool.false_eq_true, if_false] at hy
        have hne : ∀ p ∈ F, o.dst ≠ some p.2 := fun p hpF => (hlo p hpF).2 fun e => hf (by rw [← e]; exact frOf_of hpF)
        have hrec : ∀ w', Ext w0 w' → Came w0 F Φ (fun i => listed.getD i false) V lo hi w' → wpAny P .any ops Q (fuel + (ops.size - n)) (listed.setIfInBounds i true) ((over F V listed a).put o.dst v) w' := by
          intro w' hC' hcm'
          rw [over_put o.dst v F a hne]
          have e : over F V listed (a.put o.dst v) = over F V (listed.setIfInBounds i true) (a.put o.dst v) := over_congr F _ fun p hpF => ⟨rfl, by
            have : p.1 ≠ i := fun e => hf (by rw [← e]; exact frOf_of hpF)
            rw [getD_set_ne false (Ne.symm this)]⟩
          rw [e]
          refine ih _ _ V lo hi w' hC' (inv.set hir hin) ⟨fun p hpF hl => ?_, fun p hpF q hqF hl hl' => ?_⟩ hnx
          · rw [getD_set_ne false (fun e => hf (by rw [e]; exact frOf_of hpF))] at hl
            exact hcm'.each p hpF hl
          · rw [getD_set_ne false (fun e => hf (by rw [e]; exact frOf_of hpF))] at hl
            rw [getD_set_ne false (fun e => hf (by rw [e]; exact frOf_of hqF))] at hl'
            exact hcm'.apart p hpF q hqF hl hl'
        have hcmx : ∀ w', Ext w w' → Came w0 F Φ (fun i => listed.getD i false) V lo hi w' := fun w' hx =>
          ⟨fun p hpF hl => by
            obtain ⟨q1, q2, q3⟩ := hcm.each p hpF hl
            exact ⟨hΦ _ _ _ _ _ _ q1 hx, q2, Nat.le_trans q3 hx.size⟩, hcm.apart⟩
        have hwt : Region.wanted o (yielded ops (over F V listed a).tmps) = Region.wanted o (yielded pops a.tmps) := by
          rw [← over_wanted (pops := pops) (V := V) (listed := listed) o F a (fun p hpF => (hlo p hpF).1)]
          unfold Region.wanted
          cases hg : o.guard with
          | none => rfl
          | some g =>
            obtain ⟨j, want⟩ := g
            simp only
            have hj : j < n := by have := backB_guard hback ((hp i hin).symm.trans ho) hg; omega
            unfold yielded
            rw [hp j hj]
        rw [hwt]
        rcases hy with ⟨hw, hv⟩ | ⟨hw, rfl⟩
        · rw [if_pos hw]
          left
          have hu := hv w hC
          unfold Oper.quietAt at hu
          rw [← hex] at hu
          unfold Oper.wp
          generalize hrun : (execOp (over F V listed a).eval o).run P w = r at *
          cases r with
          | ok x w' =>
            cases x <;> simp only [Oper.quietUpon] at hu <;> simp only [Oper.upon]
            case value u =>
              obtain ⟨e1, e2⟩ := hu
              rw [e1, e2]
              exact hrec w hC hcm
            case skip =>
              obtain ⟨e1, e2⟩ := hu
              rw [e1, ← e2]
              exact hrec w hC hcm
            case enter f args => exact absurd hrun (noEnter (hpl i o ho (by simpa using hf)))
          | halt x w' => simp only [Oper.quietUpon] at hu
        · rw [if_neg (by simp [hw])]
          exact hrec w hC hcm
end
def freshB (l : List Oper) (n : Nat) (F : List (Nat × Tmp)) : Bool :=
  Region.noSelect (l.take n).toArray && Region.lexFrom .any (l.take n).toArray n 0 (Array.replicate l.length false) && backB l.toArray && Region.sinkB .any l.toArray n && Region.chainB .any l.toArray n && decide (n < l.length) &&
    sepB (l.take n).toArray F && ((l.take n).zipIdx.all fun p => frOf F p.2 || plainOp p.1.op)
theorem wp_region_fresh {P : Program} {id : Nat} {Q : Exit → Act → World → Prop} {a : Act} {w : World} {l : List Oper} (n : Nat) (F : List (Nat × Tmp)) (Φ : Nat → Value → Nat → Nat → World → Prop) (hm : P.follows .mixedOrders = true)
    (hB : freshB l n F = true) (hΦ : ∀ i v l h w w', Φ i v l h w → Ext w w' → Φ i v l h w')
    (h : ∀ (I : Type) [Nonempty I] (W : I → World), (∀ i, Ext w (W i)) → wpMix P (l.take n).toArray (fun w' => ∃ i, w' = W i) F Φ
      (fun a' => ∀ V lo hi w', Ext w w' → Came w F Φ (fun _ => true) V lo hi w' → wpList P l.toArray Q (l.drop n) (F.foldl (fun a p => a.put (some p.2) (V p.1)) a') w') (l.take n) 0 a) : (Code.region id l.toArray true).wp P Q a w := by
  simp only [freshB, Bool.and_eq_true, decide_eq_true_eq] at hB
  obtain ⟨⟨⟨⟨⟨⟨⟨h1, h2⟩, h3⟩, h4⟩, h5⟩, h6⟩, h7⟩, h8⟩ := hB
  haveI : Nonempty { w' // Ext w w' } := ⟨⟨w, Ext.rfl' w⟩⟩
  have hl := h { w' // Ext w w' } (fun i => i.1) (fun i => i.2)
  have hCe : (fun w' => ∃ i : { w' // Ext w w' }, w' = i.1) = Ext w := funext fun w' => propext ⟨fun ⟨i, e⟩ => e ▸ i.2, fun h => ⟨⟨w', h⟩, rfl⟩⟩
  rw [hCe] at hl
  have hlen : (l.take n).length = n := by rw [List.length_take]; omega
  have htx := textY_of_mix (l.take n) 0 a (by simp) hl
  rw [hlen] at htx
  have hgd : ∀ i o, (l.take n).toArray[i]? = some o → gdOf (l.take n).toArray F i = none ∨ gdOf (l.take n).toArray F i = o.dst := by
    intro i o ho
    unfold gdOf
    split
    · exact .inl rfl
    · right; rw [ho]; rfl
  have hloc : ∀ i o, (l.take n).toArray[i]? = some o → ∀ v a d u, (∀ t, d = some t → t ∉ o.looksAt (l.take n).toArray) → (YdOf P (Ext w) (l.take n).toArray F Φ i v (a.put d u) ↔ YdOf P (Ext w) (l.take n).toArray F Φ i v a) := by
    intro i o ho v a d u hd
    have hns : ∀ cs b, o.op ≠ .select cs b := fun cs b => Region.noSelect_spec h1 i o cs b ho
    have e1 := execOp_put (ops := (l.take n).toArray) o hns a d u hd
    have e2 := wanted_put (ops := (l.take n).toArray) o a d u hd
    simp only [YdOf, ho]
    split
    · unfold FreshAt; rw [e1]
    · exact ⟨fun hy => hy.of_same e1.symm e2.symm, fun hy => hy.of_same e1 e2⟩
  have hany := anyY_lex hgd hloc n 0 (Array.replicate l.length false) a h2 htx
  refine wp_region_any hm ?_
  have := wpAny_fresh (P := P) (ops := l.toArray) (pops := (l.take n).toArray) (Q := Q) (n := n) (w0 := w) (F := F) (Φ := Φ) (by simp; omega) (by simpa using hlen) (fun i hi => by simp [hi]) h3 h4 h5 (by simpa using h6) h1 h7
    (fun i o ho hf => by
      have hlt : i < n := by have := (Array.getElem?_eq_some_iff.1 ho).1; simp at this; omega
      have hmem : (o, i) ∈ (l.take n).zipIdx := List.mem_zipIdx_iff_getElem?.2 (by simpa using ho)
      have h9 := List.all_eq_true.1 h8 _ hmem
      simpa [hf] using h9)
    hΦ (fun a V lo hi w' hx hc hf => by simpa using hf V lo hi w' hx hc) n (Array.replicate l.length false) a (fun _ => undef) (fun _ => 0) (fun _ => 0) _ (Ext.draw (Ext.rfl' w))
    ⟨by simp, fun j oj hj hl => (by rw [getD_replicate_false] at hl; cases hl), fun t ht ht' => (by simp at ht'; simp [ht'])⟩
    ⟨fun p _ hl => (by rw [getD_replicate_false] at hl; cases hl), fun p _ q _ hl => (by rw [getD_replicate_false] at hl; cases hl)⟩ hany
  have e : n + (l.toArray.size - n) = l.toArray.size := by simp; omega
  rw [e] at this
  have e2 : over F (fun _ => undef) (Array.replicate l.length false) a = a := by
    have : ∀ (G : List (Nat × Tmp)) (a : Act), over G (fun _ => undef) (Array.replicate l.length false) a = a := by
      intro G
      induction G with
      | nil => intro a; rfl
      | cons p G ih =>
        intro a
        unfold over
        rw [List.foldl_cons, getD_replicate_false, if_neg Bool.false_ne_true]
        exact ih a
    exact this F a
  rw [e2] at this
  simpa using this
end Go.Proofs.Ytmeekpinkfpnhaa
namespace Go.Proofs.Ytmeekpinkfpnhaa
open Go.RowKit
theorem PtC.keep {w w' : World} {S S' : Nat → Prop} (hk : Keeps S w w') (hs : ∀ b, S b → b < w.heap.size → S' b) {p : Tm × List Int} {ad : Addr} (h1 : S ad.block) (h2 : ad.block < w.heap.size) (h : PtC w S p ad) : PtC w' S' p ad := by
  obtain ⟨h3, a, cap, h4, h5, h6, h7⟩ := h
  exact ⟨TmC.keep hk hs _ _ h1 h2 h3, a, cap, (hk.cell (ad := ad.add 3) h1 h2).trans h4, h5, h6, h7.keep hk hs⟩
theorem SlP.keep {w w' : World} {S S' : Nat → Prop} {ps : List (Tm × List Int)} {a : Option Addr} (h : SlP w S ps a) (hk : Keeps S w w') (hs : ∀ b, S b → b < w.heap.size → S' b) : SlP w' S' ps a :=
  Sl.mono h hs hk.1 fun _ _ _ h1 h2 h3 => PtC.keep hk hs h1 h2 h3
theorem SlP.wide {w : World} {S : Nat → Prop} (S' : Nat → Prop) {ps : List (Tm × List Int)} {a : Option Addr} (h : SlP w S ps a) (hs : ∀ b, S b → b < w.heap.size → S' b) : SlP w S' ps a := h.keep (.ext (Ext.rfl' w)) hs
theorem OwnX.slP' {w : World} {base : Nat} {S S' : Nat → Prop} {ts : List (Tm × List Int)} {v : Value} (h : OwnX PtV w base 157 4 S ts v) (hS : ∀ b, S b → b < w.heap.size → S' b) (hv : ∀ b, v.ownBlock = some b → S' b) :
    ∃ a cap, v = .slice a ts.length cap ∧ ts.length ≤ cap ∧ cap ≤ maxLen ∧ SlP w S' ts a := by
  obtain ⟨a, cap, h1, h2, h3, h4⟩ := h.sl (R := PtC w S') fun t x b o ⟨a, cap, a2, cap2, e, h1, h2, h3, h4, h5, h6⟩ _ hc => by
    subst e
    have c0 := hc 0 (by omega)
    have c1 := hc 1 (by omega)
    have c2 := hc 2 (by omega)
    have c3 := hc 3 (by omega)
    exact ⟨TmC.iff.2 ⟨c0, by rw [add_none]; exact c1, a, cap, by rw [add_none]; exact c2, h1, h2, h3.wide fun b hb hl => hS b hb.1 hl⟩, a2, cap2, by rw [add_none]; exact c3, h4, h5, h6.keep (.ext (Ext.rfl' w)) fun b hb hl => hS b hb.1 hl⟩
  exact ⟨a, cap, h1, h2, h3, Sl.mono h4 (fun _ hb _ => hv _ hb) (Nat.le_refl _) fun _ _ _ _ _ h => h⟩
theorem MapF.made (w : World) : MapF (w.alloc (.map #[] 0)) w.heap.size (fun _ => false) := ⟨[], MapV.made _ _, fun _ => rfl⟩
def abPhi (n0 : Nat) (s t : Tm) (i : Nat) (v : Value) (lo hi : Nat) (w : World) : Prop :=
  (i = 1 → ∃ a cap, v = .slice a (pn s 0).length cap ∧ (pn s 0).length ≤ cap ∧ cap ≤ maxLen ∧ SlP w (fun b => b < n0 ∨ lo ≤ b ∧ b < hi) (pn s 0) a) ∧
  (i = 3 → ∃ a cap, v = .slice a (pn t 0).length cap ∧ (pn t 0).length ≤ cap ∧ cap ≤ maxLen ∧ SlP w (fun b => b < n0 ∨ lo ≤ b ∧ b < hi) (pn t 0) a) ∧
  (i = 4 ∨ i = 5 → v = .map (some lo) ∧ MapF w lo (fun _ => false) ∧ lo < hi)
theorem abPhi_ext {n0 : Nat} {s t : Tm} (i : Nat) (v : Value) (lo hi : Nat) (w w' : World) (h : abPhi n0 s t i v lo hi w) (hx : Ext w w') : abPhi n0 s t i v lo hi w' := by
  obtain ⟨h1, h2, h3⟩ := h
  refine ⟨fun e => ?_, fun e => ?_, fun e => ?_⟩
  · obtain ⟨a, cap, q1, q2, q3, q4⟩ := h1 e
    exact ⟨a, cap, q1, q2, q3, q4.ext hx⟩
  · obtain ⟨a, cap, q1, q2, q3, q4⟩ := h2 e
    exact ⟨a, cap, q1, q2, q3, q4.ext hx⟩
  · obtain ⟨q1, q2, q3⟩ := h3 e
    exact ⟨q1, q2.ext hx, q3⟩
theorem abParts (t : Tm) (S : Nat → Prop) (x : Value) (w : World) (n0 : Nat) (hx : TmV w S t x) (hS : ∀ b, S b → b < n0) (hn0 : n0 ≤ w.heap.size) (hn : (parts t).length ≤ 1000000) :
    Calls Try.prog 107 #[.slice none 0 0, x] w fun e w' => ∃ v, e = .returned v ∧ (∃ a cap, v = .slice a (pn t 0).length cap ∧ (pn t 0).length ≤ cap ∧ cap ≤ maxLen ∧ SlP w' (fun b => b < n0 ∨ w.heap.size ≤ b ∧ b < w'.heap.size) (pn t 0) a) ∧ Ext w w' := by
  refine (partsO_any t S (fun b => b < n0) w.heap.size [] (.slice none 0 0) x w (OwnX.nil_ _ _ _ _ _ _) hx (Nat.le_refl _) (fun b hb => by have := hS b hb; omega) hS (by simpa using hn)).mono ?_
  rintro e w' ⟨v, rfl, h1, h2, h3⟩
  refine ⟨v, rfl, ?_, h2.os, h2.tape, h2.output, h2.size, fun k hk => h2.block k hk (by simp [Value.ownBlock])⟩
  exact OwnX.slP' h1 (fun b hb hl => by
    rcases hb with hb | hb
    · exact .inl hb
    · exact .inr ⟨hb, hl⟩) (fun b hb => .inr (h1.block hb))
set_option maxRecDepth 100000 in
set_option maxHeartbeats 2000000 in
theorem above_any (S : Nat → Prop) (s t : Tm) (xs xt : Value) (w : World) (hs : TmV w S s xs) (ht : TmV w S t xt) (hS : ∀ b, S b → b < w.heap.size) (har : Arit (pn s 0) (pn t 0)) (hn : (parts s).length ≤ 1000000) (hn' : (parts t).length ≤ 1000000) :
    Calls Try.prog 62 #[xs, xt] w fun e w' => e = .returned (.bool (gt s t)) ∧ Ext w w' := by
  obtain ⟨a, cap, rfl, l1, l2, l3⟩ := hs
  obtain ⟨a', cap', rfl, l1', l2', l3'⟩ := ht
  have HS := hid hS; clear hS
  have HN := hid hn; clear hn
  have HN' := hid hn'; clear hn'
  have HA := hid har; clear har
  have hmm := @run_makeMap Try.prog
  go_enter Try.func62, Try.ntmps62
  go_upto_region 1 with (fail)
  refine wp_region_fresh 6 [(1, 9), (3, 11), (4, 12), (5, 13)] (abPhi w.heap.size s t) (by kernel_rfl) (by kernel_rfl) abPhi_ext ?_
  intro I _ W hE
  have b0 : ∀ i, (W i).cell? ⟨w.heap.size, 0, none⟩ = some (.int .i64 s.v) := mild_cell hE (by go_simp)
  have b1 : ∀ i, (W i).cell? ⟨w.heap.size, 1, none⟩ = some (.int .i64 s.f) := mild_cell hE (by go_simp)
  have b2 : ∀ i, (W i).cell? ⟨w.heap.size, 2, none⟩ = some (.slice a s.us.length cap) := mild_cell hE (by go_simp)
  have c0 : ∀ i, (W i).cell? ⟨w.heap.size + 1, 0, none⟩ = some (.int .i64 t.v) := mild_cell hE (by go_simp)
  have c1 : ∀ i, (W i).cell? ⟨w.heap.size + 1, 1, none⟩ = some (.int .i64 t.f) := mild_cell hE (by go_simp)
  have c2 : ∀ i, (W i).cell? ⟨w.heap.size + 1, 2, none⟩ = some (.slice a' t.us.length cap') := mild_cell hE (by go_simp)
  refine wpMix_want (by rfl) (by rfl) ?_; intro K hK; go_big_quiet_op; go_big_quiet_on
  refine wpMix_fresh (by rfl) ?_ ?_
  · rintro _ ⟨i, rfl⟩
    go_simp
    refine ⟨rfl, (abParts s S _ (W i) w.heap.size (TmV.ext ⟨a, cap, rfl, l1, l2, l3⟩ ((Ext.two _ _ _).step (hE i))) HS.out (by have := (hE i).size; simp at this; omega) HN.out).mono ?_⟩
    rintro e w' ⟨v, rfl, h1, h2⟩
    exact ⟨v, rfl, ⟨fun _ => h1, fun h => absurd h (by decide), fun h => absurd h (by decide)⟩, h2⟩
  refine wpMix_want (by rfl) (by rfl) ?_; intro K hK; go_big_quiet_op; go_big_quiet_on
  refine wpMix_fresh (by rfl) ?_ ?_
  · rintro _ ⟨i, rfl⟩
    go_simp
    refine ⟨rfl, (abParts t S _ (W i) w.heap.size (TmV.ext ⟨a', cap', rfl, l1', l2', l3'⟩ ((Ext.two _ _ _).step (hE i))) HS.out (by have := (hE i).size; simp at this; omega) HN'.out).mono ?_⟩
    rintro e w' ⟨v, rfl, h1, h2⟩
    exact ⟨v, rfl, ⟨fun h => absurd h (by decide), fun _ => h1, fun h => absurd h (by decide)⟩, h2⟩
  refine wpMix_fresh (by rfl) ?_ ?_
  · rintro _ ⟨i, rfl⟩
    go_simp
    exact ⟨⟨fun h => absurd h (by decide), fun h => absurd h (by decide), fun _ => ⟨rfl, MapF.made _, by simp⟩⟩, Ext.one _ _⟩
  refine wpMix_fresh (by rfl) ?_ ?_
  · rintro _ ⟨i, rfl⟩
    go_simp
    exact ⟨⟨fun h => absurd h (by decide), fun h => absurd h (by decide), fun _ => ⟨rfl, MapF.made _, by simp⟩⟩, Ext.one _ _⟩
  refine wpMix_nil ?_
  intro V lo hi wa hxa hcame
  clear b0 b1 b2 c0 c1 c2
  obtain ⟨⟨g1, -, -⟩, o1, o1'⟩ := hcame.each (1, 9) (by simp) rfl
  obtain ⟨⟨-, g3, -⟩, o3, o3'⟩ := hcame.each (3, 11) (by simp) rfl
  obtain ⟨⟨-, -, g4⟩, o4, o4'⟩ := hcame.each (4, 12) (by simp) rfl
  obtain ⟨⟨-, -, g5⟩, o5, o5'⟩ := hcame.each (5, 13) (by simp) rfl
  have p1 := hcame.apart (1, 9) (by simp) (4, 12) (by simp) rfl rfl (by decide)
  have p2 := hcame.apart (1, 9) (by simp) (5, 13) (by simp) rfl rfl (by decide)
  have p3 := hcame.apart (3, 11) (by simp) (4, 12) (by simp) rfl rfl (by decide)
  have p4 := hcame.apart (3, 11) (by simp) (5, 13) (by simp) rfl rfl (by decide)
  have p5 := hcame.apart (4, 12) (by simp) (5, 13) (by simp) rfl rfl (by decide)
  clear hcame
  obtain ⟨sa, sc, e1, s1, s2, s3⟩ := g1 rfl
  obtain ⟨ta, tc, e3, t1, t2, t3⟩ := g3 rfl
  obtain ⟨e4, m4, n4⟩ := g4 (.inl rfl)
  obtain ⟨e5, m5, n5⟩ := g5 (.inr rfl)
  clear g1 g3 g4 g5
  simp only [List.foldl_cons, List.foldl_nil, e1, e3, e4, e5, List.drop_succ_cons, List.drop_zero]
  clear e1 e3 e4 e5
  simp at o1 o3 o4 o5 o1' o3' o4' o5'
  generalize lo 4 = bs at *
  generalize lo 5 = ba at *
  generalize hi 4 = bs' at *
  generalize hi 5 = ba' at *
  generalize lo 1 = x1 at *
  generalize hi 1 = x1' at *
  generalize lo 3 = x3 at *
  generalize hi 3 = x3' at *
  have hbs : bs ≠ ba ∧ bs < wa.heap.size ∧ ba < wa.heap.size ∧ w.heap.size ≤ bs ∧ w.heap.size ≤ ba := by omega
  have s3 := s3.wide (fun b => b ≠ bs ∧ b ≠ ba) fun b hb _ => by omega
  have t3 := t3.wide (fun b => b ≠ bs ∧ b ≠ ba) fun b hb _ => by omega
  clear p1 p2 p3 p4 p5 o1 o1' o3 o3' o4 o4' o5 o5'
  have hpn := hid (show (pn s 0).length = (parts s).length from pn_len s 0)
  have hpn' := hid (show (pn t 0).length = (parts t).length from pn_len t 0)
  have hlw := hxa.size
  simp at hlw
  have hx0 := hid (((Ext.two _ _ _).step hxa : Ext w wa))
  clear hxa hE
  generalize hS0 : pn s 0 = ps at *
  generalize hT0 : pn t 0 = pt at *
  have HS0 := hid hS0; clear hS0
  have HT0 := hid hT0; clear hT0
  have s2' := s2
  have t2' := t2
  unfold maxLen at s2' t2'
  go_wp2_with fail
  go_loopw [21] (fun i wr => ∃ (k : Nat) (f h : Int × Int → Bool), k ≤ ps.length ∧ i = .int .i64 k ∧ Known ps pt f h (lexlt k 0) ∧ MapF wr bs f ∧ MapF wr ba h ∧
    Upd (fun b => b = bs ∨ b = ba) (wa.alloc (.cells #[.slice sa ps.length sc, .slice ta pt.length tc, .map (some bs), .map (some ba)] 134)) wr) (fun i _ => ps.length - (intOf i).toNat)
  case atStart => exact ⟨0, _, _, by omega, rfl, fun a b _ _ hd => by unfold lexlt at hd; omega, m4.ext (Ext.one _ _), m5.ext (Ext.one _ _), Upd.of_ext (Ext.rfl' _)⟩
  case round =>
    obtain ⟨k, f, h, hk, rfl, hK, hf, hh, hu⟩ := hrel
    have HK := hid hK; clear hK
    have q0 : wr.cell? ⟨wa.heap.size, 0, none⟩ = some (.slice sa ps.length sc) := hu.some_ (by simp; omega) (by go_simp)
    have q1 : wr.cell? ⟨wa.heap.size, 1, none⟩ = some (.slice ta pt.length tc) := hu.some_ (by simp; omega) (by go_simp)
    have q3 : wr.cell? ⟨wa.heap.size, 3, none⟩ = some (.map (some ba)) := hu.some_ (by simp; omega) (by go_simp)
    by_cases hlt : k < ps.length
    · have F := hid hf; clear hf
      have H := hid hh; clear hh
      go_wp2_with fail
      have hf := F.out
      have hh := H.out
      clear F H q0 q1 q3
      obtain ⟨wo, rfl⟩ : ∃ wo : World, wo = wr := ⟨_, rfl⟩
      go_loopw [29] (fun j wr => ∃ (m : Nat) (f h : Int × Int → Bool), m ≤ pt.length ∧ j = .int .i64 m ∧ Hid (Known ps pt f h (lexlt k m)) ∧ MapF wr bs f ∧ MapF wr ba h ∧
        Upd (fun b => b = bs ∨ b = ba) (wa.alloc (.cells #[.slice sa ps.length sc, .slice ta pt.length tc, .map (some bs), .map (some ba)] 134)) wr) (fun i _ => pt.length - (intOf i).toNat)
      case atStart => exact ⟨0, f, h, by omega, rfl, HK, hf, hh, hu⟩
      case round =>
        clear hf hh hu HK
        clear f h
        obtain ⟨m, f, h, hm, rfl, HK, hf, hh, hu⟩ := hrel
        have q0 : wr.cell? ⟨wa.heap.size, 0, none⟩ = some (.slice sa ps.length sc) := hu.some_ (by simp; omega) (by go_simp)
        have q1 : wr.cell? ⟨wa.heap.size, 1, none⟩ = some (.slice ta pt.length tc) := hu.some_ (by simp; omega) (by go_simp)
        have q2 : wr.cell? ⟨wa.heap.size, 2, none⟩ = some (.map (some bs)) := hu.some_ (by simp; omega) (by go_simp)
        have q3 : wr.cell? ⟨wa.heap.size, 3, none⟩ = some (.map (some ba)) := hu.some_ (by simp; omega) (by go_simp)
        by_cases hlt' : m < pt.length
        · have hkp : Keeps (fun b => b ≠ bs ∧ b ≠ ba) wa wr := ⟨by have := hu.size; simp at this; omega, fun b hb hl => by
            rw [hu.block b (by simp; omega) (by simp; exact hb)]
            exact (Ext.one wa _).block b hl⟩
          have S3 := s3.keep hkp fun _ h _ => h
          have T3 := t3.keep hkp fun _ h _ => h
          have hone := one_any _ _ ps pt k m hlt hlt' sa ta sc tc wa.heap.size bs ba f h wr q0 q1 q2 q3 hf hh hbs.1 s1 s2 S3 t1 t2 T3 (fun h1 h2 h3 => Nat.le_of_eq (HA.out _ (List.getElem_mem hlt) _ (List.getElem_mem hlt') h1 h2 h3))
          have hstep := HK.out.step hlt hlt' (by rw [← HS0.out]; exact pn_well0 s k (by rw [HS0.out]; exact hlt)) (by rw [← HT0.out]; exact pn_well0 t m (by rw [HT0.out]; exact hlt'))
          have HST := hid hstep
          have HONE := hid hone
          have HU := hid hu
          clear hone hstep hf hh hu S3 T3 hkp HK
          generalize setF f ((k : Int), (m : Int)) (eqV f ps[k] pt[m]) = f' at *
          generalize setF h ((k : Int), (m : Int)) (grP f' h ps[k] pt[m] k m) = h' at *
          clear q0 q1 q2 q3
          go_wp2_with fail
          refine HONE.out.mono ?_
          rintro e w' ⟨rfl, y1, y2, y3⟩
          go_wp2_with fail
          go_roundw
          case rel => exact ⟨m + 1, f', h', by omega, by go_num, HST, y2, y3, HU.out.trans y1⟩
          case measure => simp [intOf]; omega
        · obtain rfl : m = pt.length := by omega
          have F := hid hf; clear hf
          have H := hid hh; clear hh
          have HU := hid hu; clear hu
          go_wp2_with fail
          go_roundw
          case rel => exact ⟨k + 1, f, h, by omega, by go_num, fun a b u v hd h1 h2 => HK.out a b u v (by
            have hb : b < pt.length := by
              rcases hp : pt[b]? with _ | p
              · rw [hp] at h2; cases h2
              · exact (List.getElem?_eq_some_iff.1 hp).1
            unfold lexlt at *; omega) h1 h2, F.out, H.out, HU.out⟩
          case measure => simp [intOf]; omega
    · obtain rfl : k = ps.length := by omega
      have F := hid hf; clear hf
      have HU := hid hu; clear hu
      have hv : h ((ps.length : Int) - 1, (pt.length : Int) - 1) = gt s t := by
        rw [← HS0.out, ← HT0.out]
        refine Known.last fun a b u v _ h1 h2 => HK.out a b u v (.inl ?_) (by rw [← HS0.out]; exact h1) (by rw [← HT0.out]; exact h2)
        rcases hp : (pn s 0)[a]? with _ | p
        · rw [hp] at h1; cases h1
        · rw [← HS0.out]; exact (List.getElem?_eq_some_iff.1 hp).1
      have HV := hid hv; clear hv
      go_upto_region 11 with (fail)
      refine wp_region_mild (by kernel_rfl) (by kernel_rfl) ?_
      intro I _ W hE hC
      have f0 := mild_cell hE q0
      have f1 := mild_cell hE q1
      have f3 := mild_cell hE q3
      have f5 := mild_map hE hh ((ps.length : Int) - 1) ((pt.length : Int) - 1)
      have hle1 : 1 ≤ ps.length := by rw [hpn.out]; exact parts_pos s
      have hle2 : 1 ≤ pt.length := by rw [hpn'.out]; exact parts_pos t
      repeat (go_big_quiet_step (fail))
      refine wpQuiet_nil ?_
      rintro _ ⟨i1, rfl⟩
      go_wp2_with fail
      go_ret
      exact ⟨ret_bool HV.out, Ext.step (Below.trans (hx0.out.new _) (HU.out.below (by simp; omega) (by rintro b (rfl | rfl) <;> omega)) : Ext w wr) (hE i1)⟩
end Go.Proofs.Ytmeekpinkfpnhaa
namespace Go.Proofs.Ytmeekpinkfpnhaa
def shift (d : Nat) (l : List Int) : List Int := l.map (· + (d : Int))
theorem shift_len (d : Nat) (l : List Int) : (shift d l).length = l.length := by simp [shift]
theorem idxs_shift (d : Nat) : ∀ (us : List Tm) (n : Nat), idxs us (n + d) = shift d (idxs us n)
  | [], _ => rfl
  | x :: xs, n => by
    have := idxs_shift d xs (n + (parts x).length)
    rw [idxs, idxs, shift, List.map_cons, ← shift, ← this]
    congr 1
    · omega
    · congr 1; omega
mutual
theorem pn_shift (d : Nat) : ∀ (t : Tm) (n : Nat), (pn t (n + d)).map (·.2) = ((pn t n).map (·.2)).map (shift d)
  | .mk v f us, n => by
    rw [pn, pn, List.map_append, List.map_append, List.map_append, pnL_shift d us n]
    simp [idxs_shift]
theorem pnL_shift (d : Nat) : ∀ (us : List Tm) (n : Nat), (pnL us (n + d)).map (·.2) = ((pnL us n).map (·.2)).map (shift d)
  | [], _ => rfl
  | x :: xs, n => by
    have := pnL_shift d xs (n + (parts x).length)
    rw [pnL, pnL, List.map_append, List.map_append, List.map_append, pn_shift d x n, ← this]
    congr 3; omega
end
theorem mid_set (d : Nat) {L : List (List Int)} {m : Nat} (hm : m < L.length) : ((L.take m).map (shift d) ++ L.drop m).set m (shift d L[m]) = (L.take (m + 1)).map (shift d) ++ L.drop (m + 1) := by
  have e : m - ((L.take m).map (shift d)).length = 0 := by simp; omega
  rw [List.set_append_right _ _ (by simp; omega), e, List.drop_eq_getElem_cons hm, List.set_cons_zero, List.take_succ_eq_append_getElem hm, List.map_append, List.append_assoc]
  rfl
def argsOf (t : Tm) : List (List Int) := (pn t 0).map (·.2)
def argsL (us : List Tm) : List (List Int) := (pnL us 0).map (·.2)
theorem argsOf_eq (t : Tm) : argsOf t = argsL t.us ++ [idxs t.us 0] := by rw [argsOf, pn_eq, List.map_append]; rfl
theorem argsOf_len (t : Tm) : (argsOf t).length = (parts t).length := by rw [argsOf, List.length_map, pn_len]
theorem argsL_len (us : List Tm) : (argsL us).length = (partsL us).length := by rw [argsL, List.length_map, pnL_len]
theorem argsL_take {us : List Tm} {k : Nat} (hk : k < us.length) : argsL (us.take (k + 1)) = argsL (us.take k) ++ (argsOf us[k]).map (shift (argsL (us.take k)).length) := by
  have h := pn_shift (pnL (us.take k) 0).length us[k] 0
  rw [argsL, pnL_take hk, List.map_append, h]
  simp [argsL, argsOf]
theorem idxs_take0 {us : List Tm} {k : Nat} (hk : k < us.length) : idxs (us.take (k + 1)) 0 = idxs (us.take k) 0 ++ [((argsL (us.take (k + 1))).length : Int) - 1] := by
  rw [idxs_take hk, argsL, List.length_map]; simp
theorem argsOf_lt (t : Tm) : ∀ l ∈ argsOf t, ∀ x ∈ l, 0 ≤ x ∧ x < (parts t).length := by
  intro l hl x hx
  obtain ⟨p, hp, rfl⟩ := List.mem_map.1 hl
  obtain ⟨i, hi, rfl⟩ := List.getElem_of_mem hp
  obtain ⟨h1, h2⟩ := pn_well0 t i hi _ (List.getElem?_eq_getElem hi)
  obtain ⟨m, hm, rfl⟩ := List.getElem_of_mem hx
  obtain ⟨j, h3, h4, _⟩ := h2 m _ (List.getElem?_eq_getElem (by omega))
  rw [List.getElem?_eq_getElem hm] at h3
  simp only [Option.some.injEq] at h3
  rw [h3]
  rw [pn_len] at hi
  omega
theorem argsOf_at (t : Tm) {i : Nat} (hi : i < (argsOf t).length) : (argsOf t)[i].length = ((parts t)[i]'(by rw [← argsOf_len]; exact hi)).us.length := by
  have hi' : i < (pn t 0).length := by simpa [argsOf] using hi
  have h1 := (pn_well0 t i hi' _ (List.getElem?_eq_getElem hi')).1
  have e : (parts t)[i]'(by rw [← argsOf_len]; exact hi) = (pn t 0)[i].1 := by simp [← pn_fst t 0]
  rw [e, ← h1]
  simp [argsOf]
theorem us_le (us : List Tm) : us.length ≤ (partsL us).length := by
  induction us with
  | nil => simp
  | cons x xs ih =>
    have h := tsz_pos x
    unfold tsz at h
    rw [partsL, List.length_append, List.length_cons]; omega
mutual
theorem parts_us : ∀ (t : Tm), ∀ u ∈ parts t, u.us.length ≤ (parts t).length
  | .mk v f us, u, h => by
    rw [parts] at h ⊢
    rw [List.length_append]
    rcases List.mem_append.1 h with h | h
    · have := partsL_us us u h; omega
    · rw [List.mem_singleton.1 h, Tm.us]
      have := us_le us; omega
theorem partsL_us : ∀ (us : List Tm), ∀ u ∈ partsL us, u.us.length ≤ (partsL us).length
  | x :: xs, u, h => by
    rw [partsL] at h ⊢
    rw [List.length_append]
    rcases List.mem_append.1 h with h | h
    · have := parts_us x u h; omega
    · have := partsL_us xs u h; omega
end
theorem argsOf_small (t : Tm) : ∀ l ∈ argsOf t, l.length ≤ (argsOf t).length := by
  intro l hl
  obtain ⟨i, hi, rfl⟩ := List.getElem_of_mem hl
  rw [argsOf_at t hi]
  have h1 := argsOf_len t
  have h2 := parts_us t _ (List.getElem_mem (by rw [← h1]; exact hi : i < (parts t).length))
  omega
end Go.Proofs.Ytmeekpinkfpnhaa
namespace Go.Proofs.Ytmeekpinkfpnhaa
open Go.RowKit
theorem grown_set (w : World) (g i : Nat) (y : Value) : w.grownBy (w.setCell ⟨g, i, none⟩ y) (some g) :=
  ⟨rfl, rfl, rfl, by simp, fun k _ hk => Below.heap_setCell _ _ _ _ fun e => hk (by rw [e])⟩
theorem flat1 : ∀ {xs : List Value}, (∀ x ∈ xs, x.cells = #[x]) → xs.flatMap (·.cells.toList) = xs
  | [], _ => rfl
  | x :: xs, h => by rw [List.flatMap_cons, h x (by simp), flat1 fun y hy => h y (by simp [hy])]; rfl
theorem Own.set {w : World} {base e g n cap i : Nat} {xs : List Value} {y : Value} (h : Own w base e 1 xs (.slice (some ⟨g, 0, none⟩) n cap)) (h1 : ∀ x ∈ xs, x.cells = #[x]) (_hi : i < xs.length) (hy : y.cells = #[y]) :
    Own (w.setCell ⟨g, i, none⟩ y) base e 1 (xs.set i y) (.slice (some ⟨g, 0, none⟩) n cap) := by
  obtain ⟨⟨h2, h3⟩, h4⟩ := h
  have h1' : ∀ x ∈ xs.set i y, x.cells = #[x] := fun x hx => by
    rcases List.mem_or_eq_of_mem_set hx with hx | rfl
    · exact h1 x hx
    · exact hy
  refine ⟨?_, fun x hx => by rw [h1' x hx]; rfl⟩
  rw [flat1 h1]  at h2 h3
  rw [flat1 h1']
  rcases h3 with ⟨h3, _⟩ | ⟨g', cap', cur, hv, hb, hh, h5, h6, h7, h8⟩
  · cases h3
  · obtain ⟨rfl, rfl, rfl⟩ : g = g' ∧ n = xs.length ∧ cap = cap' := by simpa using hv
    refine ⟨by simpa using h2, .inr ⟨g, cap, cur.setIfInBounds i y, by simp, hb, heap_setCell_same _ _ _ _ _ _ hh, by simpa using h5, h6, by simpa using h7, ?_⟩⟩
    rw [Array.toList_setIfInBounds, List.take_set, List.length_set, h8]
section
variable {α : Type} {V : World → (Nat → Prop) → α → Value → Prop} {w : World} {base e : Nat} {S S' : Nat → Prop} {ts : List α}
theorem OwnX.set (hV : VOk V) (hV1 : ∀ {w S t x}, V w S t x → x.cells = #[x]) {g n cap i : Nat} {t : α} {y : Value} (h : OwnX V w base e 1 S ts (.slice (some ⟨g, 0, none⟩) n cap)) (hi : i < ts.length) (hy : V w S' t y) (hS : ∀ b, S' b → b < w.heap.size → S b ∧ b ≠ g) :
    OwnX V (w.setCell ⟨g, i, none⟩ y) base e 1 S (ts.set i t) (.slice (some ⟨g, 0, none⟩) n cap) := by
  obtain ⟨xs, h1, h2, h3⟩ := h
  have hx1 : ∀ x ∈ xs, x.cells = #[x] := fun x hx => by
    obtain ⟨j, hj, rfl⟩ := List.getElem_of_mem hx
    exact hV1 (h3 j (by omega) hj)
  have hk : Keeps (fun b => S b ∧ some b ≠ (Value.slice (some ⟨g, 0, none⟩) n cap).ownBlock) w (w.setCell ⟨g, i, none⟩ y) := Keeps.grown (grown_set _ _ _ _) fun b hb => hb.2
  refine ⟨xs.set i y, h1.set hx1 (by omega) (hV1 hy), by simp [h2], fun j hj hj' => ?_⟩
  by_cases hij : i = j
  · subst hij
    simp only [List.getElem_set_self]
    exact hV.keep (hV.keep hy (.ext (Ext.rfl' w)) fun b hb hl => ⟨(hS b hb hl).1, fun e => (hS b hb hl).2 (by simpa [Value.ownBlock] using e)⟩) hk fun _ h _ => h
  · simp only [List.getElem_set_ne hij]
    exact hV.keep (h3 j (by simpa using hj) (by simpa using hj')) hk fun _ h _ => h
end
theorem OwnX.thawed {α : Type} {V : World → (Nat → Prop) → α → Value → Prop} {w : World} {base e sz : Nat} {S : Nat → Prop} {ts : List α} {g n cap : Nat} (h : OwnX V w base e sz S ts (.slice (some ⟨g, 0, none⟩) n cap)) (j : Nat) : w.frozen? ⟨g, j, none⟩ = false := by
  obtain ⟨xs, h1, _⟩ := h
  rcases h1.1.2 with ⟨h2, _⟩ | ⟨g', cap', cur, hv, hb, hh, _⟩
  · cases h2
  · obtain ⟨rfl, rfl⟩ : g = g' ∧ cap = cap' := by
      simp only [Value.slice.injEq, Option.some.injEq, Addr.mk.injEq] at hv
      exact ⟨hv.1.1, hv.2.2⟩
    exact frozen_of_row _ _ _ _ _ hh
theorem wpList_cat {P : Program} {t e sz bytes : Nat} (hE : ElemOk P t e sz bytes) {ops : Array Oper} {rest : List Oper} {o : Oper} {a : Act} {Q : Exit → Act → World → Prop} (hgd : o.guard = none) (s x : Operand)
    (ho : o.op = .call { callee := .builtin .append, args := #[s, x], argTypes := #[t, t] }) {w : World} {base base' : Nat} {v u : Value} {xs ys : List Value} (hs : a.eval s = v) (hx : a.eval x = u) (hown : Own w base e sz xs v) (hown' : Own w base' e sz ys u) (hn : 0 < ys.length)
    (h1 : ∀ y ∈ ys, ∀ c ∈ y.cells.toList, c.oneCell' = true)
    (hbytes : (xs.length + ys.length) * bytes ≤ 140737488355328) (hlen : xs.length + ys.length ≤ maxLen) (hbase : base ≤ w.heap.size)
    (k : ∀ g cap w', Own w' base e sz (xs ++ ys) (.slice (some ⟨g, 0, none⟩) (xs.length + ys.length) cap) → w.grownBy w' v.ownBlock → (v.ownBlock = some g ∨ g = w.heap.size) → g < w'.heap.size →
      wpList P ops Q rest (a.put o.dst (.slice (some ⟨g, 0, none⟩) (xs.length + ys.length) cap)) w') : wpList P ops Q (o :: rest) a w := by
  obtain ⟨i, z, hi, hz, hz1, hz2, hzs⟩ := hE.info
  rcases hown'.form with ⟨rfl, _⟩ | ⟨g', cap', hu, hb', hl', hc1, hc2⟩
  · simp at hn
  have hfl : (ys.flatMap (·.cells.toList)).length = ys.length * sz := by
    have h2 := hown'.2
    clear hown' hn h1 hbytes hlen k hx hu hc1
    induction ys with
    | nil => simp
    | cons y ys ih =>
      rw [List.flatMap_cons, List.length_append, ih fun z hz => h2 z (by simp [hz]), List.length_cons, Nat.add_mul]
      have := h2 y (by simp)
      simp [this]; omega
  refine wpList_append_lies _ hgd s x t ho base e i z sz bytes hE.ht hi hz hz1 hz2 hzs hE.pos v xs.length _ hs hown.1 ⟨g', 0, none⟩ ys.length cap' (ys.flatMap (·.cells.toList)) (hx.trans hu) hfl
    ?_ (fun c hc => by
      obtain ⟨y, hy, hc⟩ := List.mem_flatMap.1 hc
      exact h1 y hy c hc) hn hlen hbytes hbase w.heap.size rfl ?_
  · intro j c hj
    subst hu
    rcases hown'.1.2 with ⟨h2, _⟩ | ⟨g2, cap2, cur, hv, hb, hh, h5, h6, h7, h8⟩
    · cases h2
    · obtain ⟨rfl, rfl⟩ : g' = g2 ∧ cap' = cap2 := by simpa using hv
      have hj2 : cur.toList[j]? = some c := by
        rw [← h8] at hj
        rw [List.getElem?_take] at hj
        split at hj
        · exact hj
        · cases hj
      exact World.news_of_block hh j c hj2
  · intro g cap w' h2 h3 h4 h5
    refine k g cap w' ⟨by simpa using h2, fun y hy => ?_⟩ h3 h4 h5
    rcases List.mem_append.1 hy with hy | hy
    · exact hown.2 _ hy
    · exact hown'.2 _ hy
theorem OwnX.cat {α : Type} {V : World → (Nat → Prop) → α → Value → Prop} (hV : VOk V) {w w' : World} {base e sz : Nat} {S S' : Nat → Prop} {ts us : List α} {v : Value} {xs ys : List Value} {g n cap : Nat}
    (h2 : xs.length = ts.length) (h3 : ∀ i (h : i < ts.length) (h' : i < xs.length), V w (fun b => S b ∧ some b ≠ v.ownBlock) ts[i] xs[i])
    (h2' : ys.length = us.length) (h3' : ∀ i (h : i < us.length) (h' : i < ys.length), V w S' us[i] ys[i]) (hS : ∀ b, S' b → b < w.heap.size → S b ∧ some b ≠ v.ownBlock)
    (k1 : Own w' base e sz (xs ++ ys) (.slice (some ⟨g, 0, none⟩) n cap)) (k2 : w.grownBy w' v.ownBlock) (k3 : v.ownBlock = some g ∨ g = w.heap.size) : OwnX V w' base e sz S (ts ++ us) (.slice (some ⟨g, 0, none⟩) n cap) := by
  have hk : Keeps (fun b => S b ∧ some b ≠ v.ownBlock) w w' := Keeps.grown k2 fun b hb => hb.2
  have hs : ∀ b, (S b ∧ some b ≠ v.ownBlock) → b < w.heap.size → (S b ∧ some b ≠ (Value.slice (some ⟨g, 0, none⟩) n cap).ownBlock) := by
    rintro b ⟨hb, hne⟩ hlt
    refine ⟨hb, fun e => ?_⟩
    have e' : b = g := by simpa [Value.ownBlock] using e
    subst e'
    rcases k3 with k3 | k3
    · exact hne k3.symm
    · omega
  refine ⟨xs ++ ys, k1, by simp [h2, h2'], fun i hi hi' => ?_⟩
  by_cases hlt : i < ts.length
  · rw [List.getElem_append_left hlt, List.getElem_append_left (by omega)]
    exact hV.keep (h3 i hlt (by omega)) hk hs
  · have h8 : i - ts.length < us.length := by rw [List.length_append] at hi; omega
    have h9 : i - ts.length < ys.length := by omega
    rw [List.getElem_append_right (by omega), List.getElem_append_right (by omega)]
    have := h3' _ h8 h9
    simp only [h2]
    exact hV.keep (hV.keep this (.ext (Ext.rfl' w)) hS) hk hs
end Go.Proofs.Ytmeekpinkfpnhaa
namespace Go.Proofs.Ytmeekpinkfpnhaa
open Go.RowKit
theorem ei_ints : ElemOk Try.prog 37 22 1 24 := ElemOk.mk' (z := .slice none 0 0) Try.underlying37 (by kernel_rfl) rfl (by decide)
def Shape (x : Value) : Prop := x = .slice none 0 0 ∨ ∃ b o l c, x = .slice (some ⟨b, o, none⟩) l c
def SlIW (w : World) (S : Nat → Prop) (is : List Int) (x : Value) : Prop := SlIV w S is x ∧ Shape x
theorem vok_intsW : VOk SlIW := ⟨fun h hk hs => ⟨h.1.keep hk hs, h.2⟩⟩
theorem OwnX.slIW {w : World} {base e : Nat} {S : Nat → Prop} {ts : List Int} {v : Value} (h : OwnX IntV w base e 1 S ts v) : SlIW w (fun b => v.ownBlock = some b) ts v := by
  refine ⟨h.slI, ?_⟩
  obtain ⟨xs, h1, _⟩ := h
  rcases h1.form with ⟨_, rfl⟩ | ⟨g, cap, rfl, _⟩
  · exact .inl rfl
  · exact .inr ⟨_, _, _, _, rfl⟩
theorem sliv_one {w : World} {S : Nat → Prop} {t : List Int} {x : Value} (h : SlIW w S t x) : x.cells = #[x] := by
  obtain ⟨⟨a, cap, rfl, _⟩, _⟩ := h; rfl
theorem sliv_one' {w : World} {S : Nat → Prop} {t : List Int} {x : Value} (h : SlIW w S t x) : ∀ c ∈ x.cells.toList, c.oneCell' = true := by
  obtain ⟨⟨a, cap, rfl, _⟩, _⟩ := h; simp [Value.cells, Value.oneCell']
theorem OwnX.readI {w : World} {base e g n cap i : Nat} {S : Nat → Prop} {ts : List (List Int)} (h : OwnX SlIW w base e 1 S ts (.slice (some ⟨g, 0, none⟩) n cap)) (hi : i < ts.length) :
    ∃ a c, w.cell? ⟨g, i, none⟩ = some (.slice a ts[i].length c) ∧ ts[i].length ≤ c ∧ c ≤ maxLen ∧ SlI w (fun b => S b ∧ b ≠ g) ts[i] a := by
  obtain ⟨xs, h1, h2, h3⟩ := h
  obtain ⟨⟨a, c, e1, e2, e3, e4⟩, _⟩ := h3 i hi (by omega)
  have h5 := h1.cell (i := i) (by omega) (j := 0) (by omega)
  rw [sliv_one (h3 i hi (by omega)), e1] at h5
  refine ⟨a, c, by simpa using h5, e2, e3, e4.keep (.ext (Ext.rfl' w)) fun b hb _ => ⟨hb.1, fun e => hb.2 (by simp [Value.ownBlock, e])⟩⟩
theorem OwnX.base {α : Type} {V : World → (Nat → Prop) → α → Value → Prop} {w : World} {base base' e sz : Nat} {S : Nat → Prop} {ts : List α} {v : Value} (h : OwnX V w base e sz S ts v) (hb : base' ≤ base) : OwnX V w base' e sz S ts v := by
  obtain ⟨xs, ⟨h1, h2⟩, h3, h4⟩ := h
  refine ⟨xs, ⟨⟨h1.1, ?_⟩, h2⟩, h3, h4⟩
  rcases h1.2 with h | ⟨g, cap, cur, q1, q2, q3⟩
  · exact .inl h
  · exact .inr ⟨g, cap, cur, q1, Nat.le_trans hb q2, q3⟩
def ArgsSpec (t : Tm) : Prop := ∀ (S : Nat → Prop) (x : Value) (w : World), TmV w S t x → (parts t).length ≤ 1000000 →
  Calls Try.prog 64 #[x] w fun e w' => ∃ v, e = .returned v ∧ OwnX SlIW w' w.heap.size 22 1 (fun b => w.heap.size ≤ b) (argsOf t) v ∧ Ext w w'
set_option maxRecDepth 10000 in
set_option maxHeartbeats 2000000 in
theorem argsOf_step (t : Tm) (ih : ∀ u ∈ t.us, ArgsSpec u) : ArgsSpec t := by
  rintro S x w ⟨a, cap, rfl, h1, h2, h3⟩ hsz
  unfold maxLen at h2
  have HSZ := hid hsz; clear hsz
  go_enter Try.func64, Try.ntmps64
  go_wp2_with fail
  go_loopw [3, 4, 5] (fun out args i wr => ∃ (k : Nat), k ≤ t.us.length ∧ i = .int .i64 k ∧ OwnX SlIW wr (w.heap.size + 1) 22 1 (fun b => w.heap.size < b ∧ some b ≠ args.ownBlock) (argsL (t.us.take k)) out ∧ OwnX IntV wr (w.heap.size + 1) 3 1 No' (idxs (t.us.take k) 0) args ∧
    Ext (w.alloc (.cells #[.int .i64 t.v, .int .i64 t.f, .slice a t.us.length cap] 27)) wr) (fun _ _ i _ => t.us.length - (intOf i).toNat)
  case atStart => exact ⟨0, by omega, rfl, by simpa [argsL, pnL] using OwnX.nil_ _ _ _ _ _ _, by simpa [idxs] using OwnX.nil_ _ _ _ _ _ _, Ext.rfl' _⟩
  case round =>
    obtain ⟨k, hk, rfl, ho, hi, hx⟩ := hrel
    have b2 : wr.cell? ⟨w.heap.size, 2, none⟩ = some (.slice a t.us.length cap) := hx.boxed 2
    have hsw := hx.sz1
    by_cases hlt : k < t.us.length
    · obtain ⟨b, o, rfl⟩ := h3.some_ (by omega)
      obtain ⟨_, c1, c2, a1, cap1, c3, l1, l2, s1⟩ := SlT.readAt (h3.ext ((Ext.one _ _).step hx)) hlt
      have IH := hid (ih _ (List.getElem_mem hlt)); clear ih
      have hA := argsL_take hlt
      have hB := idxs_take0 hlt
      have hL1 : (argsL (t.us.take k)).length + (argsOf t.us[k]).length ≤ 1000000 := by
        have h9 := partsL_at hlt
        have h8 := HSZ.out
        rw [parts_eq, List.length_append] at h8
        rw [argsL_len, argsOf_len]; omega
      have hpos : 0 < (argsOf t.us[k]).length := by rw [argsOf_len]; exact parts_pos _
      have hltx := argsOf_lt t.us[k]
      rw [← argsOf_len] at hltx
      have hsmall := argsOf_small t.us[k]
      have HSM := hid hsmall; clear hsmall
      have hpk : (parts t.us[k]).length ≤ 1000000 := by rw [← argsOf_len]; omega
      have HPK := hid hpk; clear hpk
      have HO := hid ho; clear ho
      have HI := hid hi; clear hi
      have HA := hid hA; clear hA
      have HB := hid hB; clear hB
      have HLT := hid hltx; clear hltx
      obtain ⟨oa, oc, eo, ol1, ol2⟩ := HO.out.slice
      unfold maxLen at ol2
      subst eo
      go_wp2_with fail
      refine (IH.out S _ _ ⟨a1, cap1, rfl, l1, l2, s1⟩ HPK.out).mono ?_
      rintro e w1 ⟨vx, rfl, hv, hx1⟩
      obtain ⟨g, gc, rfl, g1, g2, g3, g4⟩ : ∃ g cap, vx = .slice (some ⟨g, 0, none⟩) (argsOf t.us[k]).length cap ∧ wr.heap.size ≤ g ∧ g < w1.heap.size ∧ (argsOf t.us[k]).length ≤ cap ∧ cap ≤ maxLen := by
        obtain ⟨xs, q1, q2, _⟩ := hv
        rcases q1.form with ⟨rfl, _⟩ | ⟨g, cap, q3, q4, q5, q6, q7⟩
        · simp at q2; omega
        · exact ⟨g, cap, by rw [q3, q2], q4, q5, by omega, q7⟩
      unfold maxLen at g4
      generalize hLL : argsOf t.us[k] = L at *
      generalize hOO : argsL (t.us.take k) = O at *
      have HLL := hid hLL; clear hLL
      have HOO := hid hOO; clear hOO
      have HV := hid hv; clear hv
      have HX := hid hx
      have HX1 := hid hx1
      have hsw1 := hx1.size
      clear hx1
      go_wp2_with fail
      obtain ⟨wq, rfl⟩ : ∃ wq : World, wq = wr := ⟨_, rfl⟩
      go_loopw [7] (fun kk wm => ∃ m : Nat, m ≤ L.length ∧ kk = .int .i64 m ∧ OwnX SlIW wm wq.heap.size 22 1 (fun b => wq.heap.size ≤ b) ((L.take m).map (shift O.length) ++ L.drop m) (.slice (some ⟨g, 0, none⟩) L.length gc) ∧ Ext wq wm ∧ g < wm.heap.size) (fun kk _ => L.length - (intOf kk).toNat)
      case atStart => exact ⟨0, by omega, rfl, by simpa using HV.out, HX1.out, g2⟩
      case round =>
        clear hx hsw1
        obtain ⟨m, hm, rfl, hvm, hxm, hgm⟩ := hrel
        have HVM := hid hvm; clear hvm
        have HXM := hid hxm
        have hswm := hxm.size
        clear hxm
        by_cases hlm : m < L.length
        · have hlc : ((L.take m).map (shift O.length) ++ L.drop m).length = L.length := by simp; omega
          have hle : ∀ (h : m < ((L.take m).map (shift O.length) ++ L.drop m).length), ((L.take m).map (shift O.length) ++ L.drop m)[m] = L[m] := fun h => by
            rw [List.getElem_append_right (by rw [List.length_map, List.length_take]; omega)]
            simp only [List.length_map, List.length_take, List.getElem_drop]
            congr 1; omega
          obtain ⟨a5, c5, r1, r2, r3, r4⟩ := HVM.out.readI (i := m) (by omega)
          rw [hle] at r1 r2 r4
          unfold maxLen at r3
          have R1 := hid r1
          have HLE := hid hle; clear hle
          have HLC := hid hlc; clear hlc
          have hml : L[m] ∈ L := List.getElem_mem hlm
          have hmsz := HSM.out _ hml
          generalize hM : L[m] = M at *
          have HM := hid hM; clear hM
          have HML := hid hml; clear hml
          have hLM : ∀ j (h : j < M.length), 0 ≤ M[j] ∧ M[j] < L.length := fun j h => HLT.out M HML.out _ (List.getElem_mem h)
          have HLM := hid hLM; clear hLM
          go_wp2_with fail
          obtain ⟨wo, rfl⟩ : ∃ wo : World, wo = wr := ⟨_, rfl⟩
          go_loopw [8, 9] (fun mv jj wi => ∃ j : Nat, j ≤ M.length ∧ jj = .int .i64 j ∧ OwnX IntV wi wo.heap.size 3 1 No' (shift O.length (M.take j)) mv ∧ Ext wo wi) (fun _ jj _ => M.length - (intOf jj).toNat)
          case atStart => exact ⟨0, by omega, rfl, by simpa [shift] using OwnX.nil_ _ _ _ _ _ _, Ext.rfl' _⟩
          case round =>
            obtain ⟨j, hj, rfl, hmv, hxi⟩ := hrel
            have r1 := hxi.some_ R1.out
            have r4' := r4.ext hxi
            have HMV := hid hmv; clear hmv
            have HXI := hid hxi
            have hswi := hxi.size
            clear hxi
            by_cases hlj : j < M.length
            · obtain ⟨b5, o5, rfl⟩ := r4.some_ (by omega)
              obtain ⟨_, _, hc⟩ := r4'.at_ hlj
              have hc : wr.cell? ⟨b5, o5 + j, none⟩ = some (.int .i64 M[j]) := by simpa using hc
              have HT := hid (show shift O.length (M.take (j + 1)) = shift O.length (M.take j) ++ [M[j] + O.length] from by
                rw [List.take_succ_eq_append_getElem hlj, shift, List.map_append]; rfl)
              have hbd := HLM.out j hlj
              generalize M[j] = q at *
              obtain ⟨xs, x1, x2, x3⟩ := HMV.out
              have X2 := hid x2; clear x2
              have X3 := hid x3; clear x3
              have hxs : xs.length ≤ j := by rw [X2.out, shift_len, List.length_take]; omega
              clear r4 r4'
              go_wp2_with (at_builtin; refine wpList_push' ei_int rfl _ _ (by rfl) (.int .i64 (q + O.length)) rfl rfl (by simp [Value.oneCell']) (by rfl) x1 (by rfl) (by omega) (by unfold maxLen; omega) (by omega) ?_; intro g5 cp5 w5 k1 k2 k3 k4)
              go_roundw
              case rel =>
                refine ⟨j + 1, by omega, by go_num, ?_, ?_⟩
                · rw [HT.out]
                  exact OwnX.push (V := IntV) (S := No') vok_int X2.out X3.out (t := q + O.length) rfl (S' := No') (fun b hb _ => hb.elim) k1 k2 k3
                · exact Ext.grown HXI.out x1 k2 (Nat.le_refl _)
              case measure => simp [intOf]; omega
            · obtain rfl : j = M.length := by omega
              have hsl := HMV.out.slIW
              rw [List.take_length] at hsl
              have hmb : ∀ b, (u8 : Value).ownBlock = some b → wo.heap.size ≤ b := fun b hb => (HMV.out.block hb).1
              have hset := OwnX.set vok_intsW sliv_one (HVM.out.ext vok_intsW HXI.out) (i := m) (by rw [HLC.out]; exact hlm) hsl (fun b hb hl => by have := hmb b hb; omega)
              have HSET := hid hset; clear hset hsl hmb
              obtain ⟨a8, c8, rfl, _, _⟩ := HMV.out.slice
              have e8 : (shift O.length (M.take M.length)).length = M.length := by rw [shift_len, List.length_take, Nat.min_self]
              rw [e8] at HSET ⊢
              clear HMV e8
              have hfr := (HVM.out.ext vok_intsW HXI.out).thawed m
              go_wp2_with fail
              go_roundw
              case rel =>
                refine ⟨m + 1, by omega, by go_num, ?_, ?_, ?_⟩
                · have h9 := HSET.out
                  have e9 := mid_set O.length hlm
                  rw [HM.out] at e9
                  rw [e9] at h9
                  exact h9
                · exact (HXM.out.step HXI.out).set g1 _
                · simp; omega
              case measure => simp [intOf]; omega
        · obtain rfl : m = L.length := by omega
          have hvx := HVM.out
          rw [List.drop_length, List.append_nil, List.take_length] at hvx
          have hxw := HX.out.step HXM.out
          have hOX := HO.out.ext vok_intsW HXM.out
          have hIX := HI.out.ext vok_int HXM.out
          have hOX' := hOX
          obtain ⟨xo, xo1, xo2, xo3⟩ := hOX
          obtain ⟨xx, xx1, xx2, xx3⟩ := hvx
          rw [List.length_map] at xx2
          have hne := hIX.ne_ hOX' (by decide)
          have hbo : ∀ b, (Value.slice oa O.length oc).ownBlock = some b → w.heap.size < b ∧ b < wq.heap.size := fun b hb => (HO.out.block hb)
          have hbi : ∀ b, (u4 : Value).ownBlock = some b → w.heap.size < b ∧ b < wq.heap.size := fun b hb => (HI.out.block hb)
          have hxx3 : ∀ y ∈ xx, ∀ c ∈ y.cells.toList, c.oneCell' = true := fun y hy => by
            obtain ⟨j, hj, rfl⟩ := List.getElem_of_mem hy
            exact sliv_one' (xx3 j (by rw [List.length_map]; omega) hj)
          have XO2 := hid xo2; clear xo2
          have XX2 := hid xx2; clear xx2
          have XO3 := hid xo3; clear xo3
          have XX3 := hid xx3; clear xx3
          have HNE := hid hne; clear hne
          have HBO := hid hbo; clear hbo
          have HBI := hid hbi; clear hbi
          have hl1 : xo.length = O.length := XO2.out
          have hl2 : xx.length = L.length := XX2.out
          have hsum : xo.length + xx.length ≤ 1000000 := by omega
          have hxp : 0 < xx.length := by omega
          have hwb : w.heap.size + 1 ≤ wr.heap.size := by omega
          have HIX := hid hIX; clear hIX
          have HXW := hid hxw; clear hxw hl1 hl2 hOX'
          go_upto_region 17 with (at_builtin; refine wpList_cat ei_ints rfl _ _ (by rfl) (by rfl) (by rfl) xo1 xx1 hxp hxx3 (by omega) (by unfold maxLen; omega) hwb ?_; intro g5 cp5 w5 k1 k2 k3 k4)
          have hcat := OwnX.cat vok_intsW (S := fun b => w.heap.size < b ∧ some b ≠ (u4 : Value).ownBlock) XO2.out XO3.out (by rw [List.length_map]; exact XX2.out) XX3.out (fun b hb hl => ⟨⟨by have := hb.1; omega, fun e => by have := (HBI.out b e.symm).2; have := hb.1; omega⟩, fun e => by have := (HBO.out b e.symm).2; have := hb.1; omega⟩) k1 k2 k3
          have hI1 := HIX.out.grown vok_int k2 HNE.out (fun b hb => hb.elim)
          have hx1 := Ext.grown HXW.out xo1 k2 (by simp)
          have hbi1 : ∀ b, (u4 : Value).ownBlock = some b → w.heap.size < b ∧ b < w5.heap.size := fun b hb => (hI1.block hb)
          rw [← HA.out] at hcat
          have HCAT := hid hcat
          have HX1' := hid hx1
          have HBI1 := hid hbi1; clear hbi1
          have hne2 := HCAT.out.ne_ hI1 (by decide)
          have HNE2 := hid hne2; clear hne2
          obtain ⟨xi, xi1, xi2, xi3⟩ := hI1
          have XI2 := hid xi2; clear xi2
          have XI3 := hid xi3; clear xi3
          have hki : xi.length ≤ k := by rw [XI2.out, idxs_len, List.length_take]; omega
          have hkk : k ≤ 1000000 := by
            have h8 := HSZ.out
            have h7 := partsL_ge t.us
            rw [parts_eq, List.length_append] at h8
            omega
          have hw5 : w.heap.size + 1 ≤ w5.heap.size := by have := k2.size; omega
          have hlen5 : xo.length + xx.length = (argsL (t.us.take (k + 1))).length := by rw [HA.out, List.length_append, List.length_map, ← XO2.out, ← XX2.out]
          have HL5 := hid hlen5; clear hlen5
          generalize hN : xo.length + xx.length = N at *
          have HN := hid hN; clear hN
          clear hcat hx1 k1 k2 k3
          go_wp2_with (at_builtin; refine wpList_push' ei_int rfl _ _ (by rfl) (.int .i64 (↑N - 1)) rfl rfl (by simp [Value.oneCell']) (by rfl) xi1 (by rfl) (by omega) (by unfold maxLen; omega) (by omega) ?_; intro g6 cp6 w6 k1 k2 k3 k4)
          go_roundw
          case rel =>
            refine ⟨k + 1, by omega, by go_num, ?_, ?_, ?_⟩
            · have := HCAT.out.grown2 vok_intsW (S' := fun b => w.heap.size < b ∧ some b ≠ (Value.slice (some ⟨g6, 0, none⟩) (xi.length + 1) cp6).ownBlock) k2 HNE2.out (fun b hb _ => hb.2) (fun b hb hl => ⟨hb.1, fun e => by
                have e' : b = g6 := by simpa [Value.ownBlock] using e
                subst e'
                rcases k3 with k3 | k3
                · exact hb.2 k3.symm
                · omega⟩)
              exact this
            · rw [HB.out, ← HL5.out]
              exact OwnX.push (V := IntV) (S := No') vok_int XI2.out XI3.out (t := (N : Int) - 1) rfl (S' := No') (fun b hb _ => hb.elim) k1 k2 k3
            · exact Ext.grown HX1'.out xi1 k2 (by simp)
          case measure => simp [intOf]; omega
    · obtain rfl : k = t.us.length := by omega
      clear ih
      rw [List.take_length] at ho hi
      have hbi : ∀ b, (u4 : Value).ownBlock = some b → w.heap.size < b ∧ b < wr.heap.size := fun b hb => (hi.block hb)
      have hbo : ∀ b, (u3 : Value).ownBlock = some b → w.heap.size < b ∧ b < wr.heap.size := fun b hb => (ho.block hb)
      have hne := ho.ne_ hi (by decide)
      have HNE := hid hne; clear hne
      have HBI := hid hbi; clear hbi
      have HBO := hid hbo; clear hbo
      have hsl := hi.slIW
      have hle : (argsL t.us).length ≤ 1000000 - 1 := by
        have h8 := HSZ.out
        rw [parts_eq, List.length_append] at h8
        rw [argsL_len]
        simp at h8
        omega
      obtain ⟨xo, xo1, xo2, xo3⟩ := ho.wide vok_intsW (S' := fun b => w.heap.size < b) (fun b hb _ => hb.1)
      clear ho
      have XO2 := hid xo2; clear xo2
      have XO3 := hid xo3; clear xo3
      have HX := hid hx
      have hxl : xo.length ≤ 1000000 - 1 := by rw [XO2.out]; exact hle
      clear hle hi
      obtain ⟨⟨a4, c4, rfl, i1, i2, i3⟩, i4⟩ := hsl
      have HI4 := hid i4; clear i4
      have HI3 := hid i3; clear i3
      go_wp2_with (at_builtin; refine wpList_push' ei_ints rfl _ _ (by rfl) (.slice a4 (idxs t.us 0).length c4) rfl rfl (by simp [Value.oneCell']) (by rfl) xo1 (by rfl) (by omega) (by unfold maxLen; omega) (by omega) ?_; intro g6 cp6 w6 k1 k2 k3 k4)
      go_ret
      refine ⟨_, rfl, ?_, ?_⟩
      · have h9 := OwnX.push vok_intsW XO2.out XO3.out (t := idxs t.us 0) (S' := fun b => (Value.slice a4 (idxs t.us 0).length c4).ownBlock = some b) ⟨⟨a4, c4, rfl, i1, i2, HI3.out⟩, HI4.out⟩ (fun b hb _ => ⟨(HBI.out b hb).1, fun e => by
          rcases HNE.out with h | h
          · exact h (e.symm.trans hb.symm)
          · rw [h] at e; cases e⟩) k1 k2 k3
        rw [argsOf_eq]
        exact (h9.base (by omega)).wide vok_intsW fun b hb _ => Nat.le_of_lt hb
      · exact (Ext.one _ _).step (Ext.grown HX.out xo1 k2 (by simp))
theorem argsOf_any (t : Tm) : ArgsSpec t := Tm.ind argsOf_step t
end Go.Proofs.Ytmeekpinkfpnhaa
namespace Go.Proofs.Ytmeekpinkfpnhaa
open Go.RowKit
theorem own_arit {g : List Int} {s t : Tm} (h : own g s = 0) (h' : own g t = 0) : Arit (pn s 0) (pn t 0) := arit_form (own_form h).1 (own_form h').1
section
variable (t u : Tm)
theorem above_tri (har : Arit (pn t 0) (pn u 0)) (h1 : (parts t).length ≤ 1000000) (h2 : (parts u).length ≤ 1000000) : Tri Try.prog 62 [.d (tmDV t), .d (tmDV u)] (pure' (bA (gt t u))) :=
  tri_of2 rfl fun w m x y hm hx hy => above_any (Here w) t u x y w (tm_val hm (fun _ h => h) hx) (tm_val hm (fun _ h => h) hy) (fun _ h => h) har h1 h2
end
theorem ints_frost {w : World} {n : Nat} {m' : Mem} (hm : ∀ b o c, n ≤ b → w.cell? ⟨b, o, none⟩ = some c → c.oneCell' = true → m' b o = some c) {S : Nat → Prop} (hS : ∀ b, S b → n ≤ b) {is : List Int} {x : Value} (h : SlIW w S is x) : RD m' x (.sl (is.map iD)) := by
  obtain ⟨⟨a, cap, rfl, h1, h2, h3⟩, h4⟩ := h
  rcases h4 with h4 | ⟨b, o, l, c, h4⟩
  · injection h4 with e1 e2 e3
    have : is = [] := List.eq_nil_of_length_eq_zero e2
    subst this
    rw [e1, e3]
    exact .nil
  · injection h4 with e1 e2 e3
    subst e1
    have key : ∀ i (hi : i < is.length), m' b (o + i * 1) = some (.int .i64 is[i]) := fun i hi => by
      obtain ⟨g1, g2, g3⟩ := h3.at_ hi
      exact hm _ _ _ (hS _ g1) g3 rfl
    refine .sl (sz := 1) (by simp) h1 h2 (fun x hx => ?_) (fun i j x d hx hd => ?_) (fun i j x d c hx hd hc => ?_)
    · obtain ⟨y, _, rfl⟩ := List.mem_map.1 hx; rfl
    all_goals
      rw [List.getElem?_map, Option.map_eq_some_iff] at hx
      obtain ⟨y, hy, rfl⟩ := hx
      obtain ⟨hi, rfl⟩ := List.getElem?_eq_some_iff.1 hy
      cases j with
      | zero => first | exact ⟨_, key i hi⟩ | (have := key i hi; rw [Nat.add_zero] at hc; rw [this] at hc; cases hc; cases hd; exact .v rfl)
      | succ j => simp [DV.cells] at hd
theorem argsOf_tri (t : Tm) (hn : (parts t).length ≤ 1000000) : Tri Try.prog 64 [.d (tmDV t)] (pure' (.d (.sl ((argsOf t).map fun l => .sl (l.map iD))))) := by
  refine tri_frost fun w m β cargs hm hsz hargs => ?_
  obtain ⟨l⟩ := cargs
  match l, hsz with
  | [x], _ =>
    have hx := (hargs 0 x _ rfl rfl).dat_
    refine (argsOf_any t (Here w) x w (tm_val hm (fun _ h => h) hx) hn).mono ?_
    rintro e w' ⟨v, rfl, ⟨xs, h1, h2, h3⟩, hext⟩
    refine ⟨v, rfl, hext, fun m' _ hm' => ?_⟩
    rcases h1.form with ⟨h0, rfl⟩ | ⟨g, cap, rfl, hb, hlt, k1, k2⟩
    · have : argsOf t = [] := List.eq_nil_of_length_eq_zero (by rw [← h2, h0]; rfl)
      rw [this]; exact .nil
    · have key : ∀ i (hi : i < (argsOf t).length), m' g (0 + i * 1) = some (xs[i]'(by omega)) := fun i hi => by
        have hi' : i < xs.length := by omega
        have h5 := h1.cell hi' (j := 0) (by omega)
        rw [sliv_one (h3 i hi hi')] at h5
        refine hm' _ _ _ hb (by simpa using h5) ?_
        have := sliv_one' (h3 i hi hi')
        rw [sliv_one (h3 i hi hi')] at this
        exact this _ (by simp)
      have hel : ∀ i (hi : i < (argsOf t).length), RD m' (xs[i]'(by omega)) (.sl ((argsOf t)[i].map iD)) := fun i hi => ints_frost hm' (fun b hb => hb.1) (h3 i hi (by omega))
      refine .sl (sz := 1) (by simp [h2]) k1 k2 (fun x hx => ?_) (fun i j x d hx hd => ?_) (fun i j x d c hx hd hc => ?_)
      · obtain ⟨y, _, rfl⟩ := List.mem_map.1 hx; rfl
      all_goals
        rw [List.getElem?_map, Option.map_eq_some_iff] at hx
        obtain ⟨y, hy, rfl⟩ := hx
        obtain ⟨hi, rfl⟩ := List.getElem?_eq_some_iff.1 hy
        cases j with
        | zero => first | exact ⟨_, key i hi⟩ | (have := key i hi; rw [Nat.add_zero] at hc; rw [this] at hc; cases hc; cases hd; exact hel i hi)
        | succ j => simp [DV.cells] at hd
end Go.Proofs.Ytmeekpinkfpnhaa
namespace Go.Proofs.Ytmeekpinkfpnhaa
open Go.RowKit
set_option maxRecDepth 20000 in
theorem greater_tri (g : List Int) (s t : Tm) : Tri Try.prog 13 [.d (sgDV g), .d (tmDV s), .d (tmDV t)] (pure' (.tup [bA (allOk g [s, t] == 0 && gt s t), iA (allOk g [s, t])])) := by
  refine tri_enter Try.func13 rfl Try.ntmps13 (by simp only [List.length_cons, List.length_nil]; omega) fun w0 h0 k hrd hwr => ?_
  cases h : allOk g [s, t] == 0 with
  | true =>
    obtain ⟨_, h2⟩ := allOk_own (beq_iff_eq.1 h)
    have hs := h2 s (by simp)
    have ht := h2 t (by simp)
    have := own_parts hs
    have := own_parts ht
    have h0 : allOk g [s, t] = 0 := beq_iff_eq.1 h
    have h3 : (allOk g [s, t] != 0) = false := by simpa using h
    repeat' (first | refine awp_seq_k fun K hK => ?_ | ((first | refine awp_region_k (by kernel_rfl) fun R hR => ?_ | refine awp_draw mixed (by kernel_rfl) (by kernel_rfl) fun R hR => ?_); simp only [go_sem, h3]) | ((first | (refine hR _ ?_; clear hR R) | refine awp_skip ?_ | refine awp_exit ?_ | refine awp_ret ?_); try simp only [thenA, inBlockA, reduceIte, reduceCtorEq, Nat.reduceEqDiff, if_false, if_true]) | ((first | refine hK _ ?_ | (clear hK K; first | refine hK _ ?_ | (clear hK K; first | refine hK _ ?_ | (clear hK K; first | refine hK _ ?_ | (clear hK K; refine hK _ ?_))))); clear hK K) | refine awp_true rfl rfl ?_ | refine awp_false rfl rfl ?_ | refine awp_block ?_ | ((first | refine CallK.pure (enter61) (all_tri g [s, t]) ?_ ?_ | refine CallD.pure (enter61) (all_tri g [s, t]) ?_ ?_ | refine CallK.pure (enter62) (above_tri s t (own_arit hs ht) (by omega) (by omega)) ?_ ?_ | refine CallD.pure (enter62) (above_tri s t (own_arit hs ht) (by omega) (by omega)) ?_ ?_); (focus first | ((repeat (first | exact trivial | refine ⟨(by first | exact Or.inl rfl | exact Or.inr rfl), ?_⟩)); done) | (simp only [coL, AV.dat, true_or, or_true, AV.d.injEq, go_sem]; done)); simp only [go_sem, h3]) | refine And.intro (by first | ((repeat' first | omega | exact trivial | rfl | assumption | (intro a e; subst e; rfl) | exact map_sz fun a => (by simp only [go_sem]) | refine And.intro ?_ ?_); done) | fail) ?_ | fail)
    (first | refine ret_pure ?_ ?_ ?_ | refine ret_ro ?_ ?_ ?_); focus exact (by simp only [Try.results13, resOkL, resOk, Try.ntmps13, List.toList_toArray]; first | decide | (simp only [go_sem, h0]; done) | (simp only [go_sem, h0]; and_intros <;> first | omega | rfl | decide))
    rotate_left; focus exact (by repeat (first | exact Fr.rfl' _ _ | assumption | refine Fr.updk ?_ (by omega) _))
    simp only [resA, resV, Try.results13, go_sem, h0]
    all_goals try (first | exact Co.t2 (.dat rfl) (.dat rfl) | exact Co.t3 (.dat rfl) (.dat rfl) (.dat rfl))
  | false =>
    have h0 : ¬ allOk g [s, t] = 0 := by simpa using h
    have h3 : (allOk g [s, t] != 0) = true := by simpa using h
    repeat' (first | refine awp_seq_k fun K hK => ?_ | ((first | refine awp_region_k (by kernel_rfl) fun R hR => ?_ | refine awp_draw mixed (by kernel_rfl) (by kernel_rfl) fun R hR => ?_); simp only [go_sem, h3]) | ((first | (refine hR _ ?_; clear hR R) | refine awp_skip ?_ | refine awp_exit ?_ | refine awp_ret ?_); try simp only [thenA, inBlockA, reduceIte, reduceCtorEq, Nat.reduceEqDiff, if_false, if_true]) | ((first | refine hK _ ?_ | (clear hK K; first | refine hK _ ?_ | (clear hK K; first | refine hK _ ?_ | (clear hK K; first | refine hK _ ?_ | (clear hK K; refine hK _ ?_))))); clear hK K) | refine awp_true rfl rfl ?_ | refine awp_false rfl rfl ?_ | refine awp_block ?_ | ((first | refine CallK.pure (enter61) (all_tri g [s, t]) ?_ ?_ | refine CallD.pure (enter61) (all_tri g [s, t]) ?_ ?_); (focus first | ((repeat (first | exact trivial | refine ⟨(by first | exact Or.inl rfl | exact Or.inr rfl), ?_⟩)); done) | (simp only [coL, AV.dat, true_or, or_true, AV.d.injEq, go_sem]; done)); simp only [go_sem, h3]) | refine And.intro (by first | ((repeat' first | omega | exact trivial | rfl | assumption | (intro a e; subst e; rfl) | exact map_sz fun a => (by simp only [go_sem]) | refine And.intro ?_ ?_); done) | fail) ?_ | fail)
    (first | refine ret_pure ?_ ?_ ?_ | refine ret_ro ?_ ?_ ?_); focus exact (by simp only [Try.results13, resOkL, resOk, Try.ntmps13, List.toList_toArray]; first | decide | (simp only [go_sem]; done) | (simp only [go_sem]; and_intros <;> first | omega | rfl | decide))
    rotate_left; focus exact (by repeat (first | exact Fr.rfl' _ _ | assumption | refine Fr.updk ?_ (by omega) _))
    simp only [resA, resV, Try.results13, go_sem]
    all_goals try (first | exact Co.t2 (.dat rfl) (.dat rfl) | exact Co.t3 (.dat rfl) (.dat rfl) (.dat rfl))
set_option maxRecDepth 20000 in
theorem compare_tri (g : List Int) (s t : Tm) : Tri Try.prog 14 [.d (sgDV g), .d (tmDV s), .d (tmDV t)] (pure' (.tup [iA (if allOk g [s, t] = 0 then if gt s t then 1 else if gt t s then -1 else 0 else 0), iA (allOk g [s, t])])) := by
  refine tri_enter Try.func14 rfl Try.ntmps14 (by simp only [List.length_cons, List.length_nil]; omega) fun w0 h0 k hrd hwr => ?_
  cases h : allOk g [s, t] == 0 with
  | true =>
    obtain ⟨_, h2⟩ := allOk_own (beq_iff_eq.1 h)
    have hs := h2 s (by simp)
    have ht := h2 t (by simp)
    have := own_parts hs
    have := own_parts ht
    have h0 : allOk g [s, t] = 0 := beq_iff_eq.1 h
    have h3 : (allOk g [s, t] != 0) = false := by simpa using h
    cases h4 : gt s t with
    | true =>
      repeat' (first | refine awp_seq_k fun K hK => ?_ | ((first | refine awp_region_k (by kernel_rfl) fun R hR => ?_ | refine awp_draw mixed (by kernel_rfl) (by kernel_rfl) fun R hR => ?_); simp only [go_sem, h3, h4]) | ((first | (refine hR _ ?_; clear hR R) | refine awp_skip ?_ | refine awp_exit ?_ | refine awp_ret ?_); try simp only [thenA, inBlockA, reduceIte, reduceCtorEq, Nat.reduceEqDiff, if_false, if_true]) | ((first | refine hK _ ?_ | (clear hK K; first | refine hK _ ?_ | (clear hK K; first | refine hK _ ?_ | (clear hK K; first | refine hK _ ?_ | (clear hK K; refine hK _ ?_))))); clear hK K) | refine awp_true rfl rfl ?_ | refine awp_false rfl rfl ?_ | refine awp_block ?_ | ((first | refine CallK.pure (enter61) (all_tri g [s, t]) ?_ ?_ | refine CallD.pure (enter61) (all_tri g [s, t]) ?_ ?_ | refine CallK.pure (enter62) (above_tri s t (own_arit hs ht) (by omega) (by omega)) ?_ ?_ | refine CallD.pure (enter62) (above_tri s t (own_arit hs ht) (by omega) (by omega)) ?_ ?_); (focus first | ((repeat (first | exact trivial | refine ⟨(by first | exact Or.inl rfl | exact Or.inr rfl), ?_⟩)); done) | (simp only [coL, AV.dat, true_or, or_true, AV.d.injEq, go_sem]; done)); simp only [go_sem, h3, h4]) | refine And.intro (by first | ((repeat' first | omega | exact trivial | rfl | assumption | (intro a e; subst e; rfl) | exact map_sz fun a => (by simp only [go_sem]) | refine And.intro ?_ ?_); done) | fail) ?_ | fail)
      (first | refine ret_pure ?_ ?_ ?_ | refine ret_ro ?_ ?_ ?_); focus exact (by simp only [Try.results14, resOkL, resOk, Try.ntmps14, List.toList_toArray]; first | decide | (simp only [go_sem, h0, h4, eq_self]; done) | (simp only [go_sem, h0, h4, eq_self]; and_intros <;> first | omega | rfl | decide))
      rotate_left; focus exact (by repeat (first | exact Fr.rfl' _ _ | assumption | refine Fr.updk ?_ (by omega) _))
      simp only [resA, resV, Try.results14, go_sem, h0, h4, eq_self]
      all_goals try (first | exact Co.t2 (.dat rfl) (.dat rfl) | exact Co.t3 (.dat rfl) (.dat rfl) (.dat rfl))
    | false =>
      cases h5 : gt t s with
      | true =>
        repeat' (first | refine awp_seq_k fun K hK => ?_ | ((first | refine awp_region_k (by kernel_rfl) fun R hR => ?_ | refine awp_draw mixed (by kernel_rfl) (by kernel_rfl) fun R hR => ?_); simp only [go_sem, h3, h4, h5]) | ((first | (refine hR _ ?_; clear hR R) | refine awp_skip ?_ | refine awp_exit ?_ | refine awp_ret ?_); try simp only [thenA, inBlockA, reduceIte, reduceCtorEq, Nat.reduceEqDiff, if_false, if_true]) | ((first | refine hK _ ?_ | (clear hK K; first | refine hK _ ?_ | (clear hK K; first | refine hK _ ?_ | (clear hK K; first | refine hK _ ?_ | (clear hK K; refine hK _ ?_))))); clear hK K) | refine awp_true rfl rfl ?_ | refine awp_false rfl rfl ?_ | refine awp_block ?_ | ((first | refine CallK.pure (enter62) (above_tri s t (own_arit hs ht) (by omega) (by omega)) ?_ ?_ | refine CallD.pure (enter62) (above_tri s t (own_arit hs ht) (by omega) (by omega)) ?_ ?_); (focus first | ((repeat (first | exact trivial | refine ⟨(by first | exact Or.inl rfl | exact Or.inr rfl), ?_⟩)); done) | (simp only [coL, AV.dat, true_or, or_true, AV.d.injEq, go_sem]; done)); simp only [go_sem, h3, h4, h5]) | ((first | refine CallK.pure (enter62) (above_tri t s (own_arit ht hs) (by omega) (by omega)) ?_ ?_ | refine CallD.pure (enter62) (above_tri t s (own_arit ht hs) (by omega) (by omega)) ?_ ?_); (focus first | ((repeat (first | exact trivial | refine ⟨(by first | exact Or.inl rfl | exact Or.inr rfl), ?_⟩)); done) | (simp only [coL, AV.dat, true_or, or_true, AV.d.injEq, go_sem]; done)); simp only [go_sem, h3, h4, h5]) | ((first | refine CallK.pure (enter61) (all_tri g [s, t]) ?_ ?_ | refine CallD.pure (enter61) (all_tri g [s, t]) ?_ ?_); (focus first | ((repeat (first | exact trivial | refine ⟨(by first | exact Or.inl rfl | exact Or.inr rfl), ?_⟩)); done) | (simp only [coL, AV.dat, true_or, or_true, AV.d.injEq, go_sem]; done)); simp only [go_sem, h3, h4, h5]) | refine And.intro (by first | ((repeat' first | omega | exact trivial | rfl | assumption | (intro a e; subst e; rfl) | exact map_sz fun a => (by simp only [go_sem]) | refine And.intro ?_ ?_); done) | fail) ?_ | fail)
        (first | refine ret_pure ?_ ?_ ?_ | refine ret_ro ?_ ?_ ?_); focus exact (by simp only [Try.results14, resOkL, resOk, Try.ntmps14, List.toList_toArray]; first | decide | (simp only [go_sem, h0, h4, h5, eq_self]; done) | (simp only [go_sem, h0, h4, h5, eq_self]; and_intros <;> first | omega | rfl | decide))
        rotate_left; focus exact (by repeat (first | exact Fr.rfl' _ _ | assumption | refine Fr.updk ?_ (by omega) _))
        simp only [resA, resV, Try.results14, go_sem, h0, h4, h5, eq_self]
        all_goals try (first | exact Co.t2 (.dat rfl) (.dat rfl) | exact Co.t3 (.dat rfl) (.dat rfl) (.dat rfl))
      | false =>
        repeat' (first | refine awp_seq_k fun K hK => ?_ | ((first | refine awp_region_k (by kernel_rfl) fun R hR => ?_ | refine awp_draw mixed (by kernel_rfl) (by kernel_rfl) fun R hR => ?_); simp only [go_sem, h3, h4, h5]) | ((first | (refine hR _ ?_; clear hR R) | refine awp_skip ?_ | refine awp_exit ?_ | refine awp_ret ?_); try simp only [thenA, inBlockA, reduceIte, reduceCtorEq, Nat.reduceEqDiff, if_false, if_true]) | ((first | refine hK _ ?_ | (clear hK K; first | refine hK _ ?_ | (clear hK K; first | refine hK _ ?_ | (clear hK K; first | refine hK _ ?_ | (clear hK K; refine hK _ ?_))))); clear hK K) | refine awp_true rfl rfl ?_ | refine awp_false rfl rfl ?_ | refine awp_block ?_ | ((first | refine CallK.pure (enter62) (above_tri s t (own_arit hs ht) (by omega) (by omega)) ?_ ?_ | refine CallD.pure (enter62) (above_tri s t (own_arit hs ht) (by omega) (by omega)) ?_ ?_); (focus first | ((repeat (first | exact trivial | refine ⟨(by first | exact Or.inl rfl | exact Or.inr rfl), ?_⟩)); done) | (simp only [coL, AV.dat, true_or, or_true, AV.d.injEq, go_sem]; done)); simp only [go_sem, h3, h4, h5]) | ((first | refine CallK.pure (enter62) (above_tri t s (own_arit ht hs) (by omega) (by omega)) ?_ ?_ | refine CallD.pure (enter62) (above_tri t s (own_arit ht hs) (by omega) (by omega)) ?_ ?_); (focus first | ((repeat (first | exact trivial | refine ⟨(by first | exact Or.inl rfl | exact Or.inr rfl), ?_⟩)); done) | (simp only [coL, AV.dat, true_or, or_true, AV.d.injEq, go_sem]; done)); simp only [go_sem, h3, h4, h5]) | ((first | refine CallK.pure (enter61) (all_tri g [s, t]) ?_ ?_ | refine CallD.pure (enter61) (all_tri g [s, t]) ?_ ?_); (focus first | ((repeat (first | exact trivial | refine ⟨(by first | exact Or.inl rfl | exact Or.inr rfl), ?_⟩)); done) | (simp only [coL, AV.dat, true_or, or_true, AV.d.injEq, go_sem]; done)); simp only [go_sem, h3, h4, h5]) | refine And.intro (by first | ((repeat' first | omega | exact trivial | rfl | assumption | (intro a e; subst e; rfl) | exact map_sz fun a => (by simp only [go_sem]) | refine And.intro ?_ ?_); done) | fail) ?_ | fail)
        (first | refine ret_pure ?_ ?_ ?_ | refine ret_ro ?_ ?_ ?_); focus exact (by simp only [Try.results14, resOkL, resOk, Try.ntmps14, List.toList_toArray]; first | decide | (simp only [go_sem, h0, h4, h5, eq_self]; done) | (simp only [go_sem, h0, h4, h5, eq_self]; and_intros <;> first | omega | rfl | decide))
        rotate_left; focus exact (by repeat (first | exact Fr.rfl' _ _ | assumption | refine Fr.updk ?_ (by omega) _))
        simp only [resA, resV, Try.results14, go_sem, h0, h4, h5, eq_self]
        all_goals try (first | exact Co.t2 (.dat rfl) (.dat rfl) | exact Co.t3 (.dat rfl) (.dat rfl) (.dat rfl))
  | false =>
    have h0 : ¬ allOk g [s, t] = 0 := by simpa using h
    have h3 : (allOk g [s, t] != 0) = true := by simpa using h
    repeat' (first | refine awp_seq_k fun K hK => ?_ | ((first | refine awp_region_k (by kernel_rfl) fun R hR => ?_ | refine awp_draw mixed (by kernel_rfl) (by kernel_rfl) fun R hR => ?_); simp only [go_sem, h3]) | ((first | (refine hR _ ?_; clear hR R) | refine awp_skip ?_ | refine awp_exit ?_ | refine awp_ret ?_); try simp only [thenA, inBlockA, reduceIte, reduceCtorEq, Nat.reduceEqDiff, if_false, if_true]) | ((first | refine hK _ ?_ | (clear hK K; first | refine hK _ ?_ | (clear hK K; first | refine hK _ ?_ | (clear hK K; first | refine hK _ ?_ | (clear hK K; refine hK _ ?_))))); clear hK K) | refine awp_true rfl rfl ?_ | refine awp_false rfl rfl ?_ | refine awp_block ?_ | ((first | refine CallK.pure (enter61) (all_tri g [s, t]) ?_ ?_ | refine CallD.pure (enter61) (all_tri g [s, t]) ?_ ?_); (focus first | ((repeat (first | exact trivial | refine ⟨(by first | exact Or.inl rfl | exact Or.inr rfl), ?_⟩)); done) | (simp only [coL, AV.dat, true_or, or_true, AV.d.injEq, go_sem]; done)); simp only [go_sem, h3]) | refine And.intro (by first | ((repeat' first | omega | exact trivial | rfl | assumption | (intro a e; subst e; rfl) | exact map_sz fun a => (by simp only [go_sem]) | refine And.intro ?_ ?_); done) | fail) ?_ | fail)
    (first | refine ret_pure ?_ ?_ ?_ | refine ret_ro ?_ ?_ ?_); focus exact (by simp only [Try.results14, resOkL, resOk, Try.ntmps14, List.toList_toArray]; first | decide | (simp only [go_sem, h0, eq_self]; done) | (simp only [go_sem, h0, eq_self]; and_intros <;> first | omega | rfl | decide))
    rotate_left; focus exact (by repeat (first | exact Fr.rfl' _ _ | assumption | refine Fr.updk ?_ (by omega) _))
    simp only [resA, resV, Try.results14, go_sem, h0, eq_self]
    all_goals try (first | exact Co.t2 (.dat rfl) (.dat rfl) | exact Co.t3 (.dat rfl) (.dat rfl) (.dat rfl))
end Go.Proofs.Ytmeekpinkfpnhaa

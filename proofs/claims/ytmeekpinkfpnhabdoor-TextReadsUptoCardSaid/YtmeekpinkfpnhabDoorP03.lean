/- The operations: each does to worlds what is said of it on pure values (8): maps. -/
import Derived.Test.YtmeekpinkfpnhabDoorP02
import Derived.MapKept
import Derived.Laws.IdiomRangeMap
set_option linter.all false
namespace Go.Proofs.YtmeekpinkfpnhabDoor
open Go.RowKit
section
variable {P : Program} {w0 : GW} {w : World} {h : Heap} {k : Nat} {m : Mem} {β : Bl} {nm : Nm}
theorem run_app_room {t : TypeId} {base : Option Addr} {sLen sCap n : Nat} {vx : Value} {news : List Value} (hs : slT P t = true) (hI : (P.info? (elT P t)).isSome = true) (hx : (Builtin.lenOf vx).run P w = .ok n w)
  (hn : (Builtin.firstCells (szT P (elT P t)) n vx).run P w = .ok news.toArray w) (hroom : sLen + n ≤ sCap) (ty : TypeId) (w' : World)
  (hst : ∀ a, base = some a → (storeCells (a.add (sLen * szT P (elT P t))) news).run P w = .ok () w') (hst' : base = none → w' = w) : (Builtin.append_ #[t, t] ty #[.slice base sLen sCap, vx]).run P w = .ok (.slice base (sLen + n) sCap) w' := by
 cases base with
 | none =>
  have := hst' rfl; subst this
  simp [Builtin.append_, run_underlying (slT_of hs), run_sizeOf' hI, hx, hroom, hn]
 | some a => simp [Builtin.append_, run_underlying (slT_of hs), run_sizeOf' hI, hx, hroom, hn, hst a rfl]
theorem run_app_new {t : TypeId} {base : Option Addr} {sLen sCap n : Nat} {vx : Value} {olds news : List Value} {i : TypeInfo} {z : Value} (hs : slT P t = true) (hi : P.info? (elT P t) = some i) (hz : i.zero = some z) (hx : (Builtin.lenOf vx).run P w = .ok n w)
  (hn : (Builtin.firstCells (szT P (elT P t)) n vx).run P w.drew = .ok news.toArray w.drew) (ho : (Builtin.firstCells (szT P (elT P t)) sLen (.slice base sLen sCap)).run P w.drew = .ok olds.toArray w.drew)
  (hroom : sCap < sLen + n) (hlim : sLen + n ≤ 16777216) (hby : bytesT P (elT P t) ≤ 1024) (ty : TypeId) :
  (Builtin.append_ #[t, t] ty #[.slice base sLen sCap, vx]).run P w = .ok (.slice (some ⟨w.heap.size, 0, none⟩) (sLen + n) (grownCap w (sLen + n) sCap (elT P t)))
   (w.drew.alloc (.cells (olds.toArray ++ (news.toArray ++ Builtin.zeroCells z.cells (grownCap w (sLen + n) sCap (elT P t) - (sLen + n)))) (elT P t))) := by
 have hI : (P.info? (elT P t)).isSome = true := by simp [hi]
 have hb : i.bytes ≤ 1024 := by simpa [bytesT, hi] using hby
 have h48 := growslice_fits (bytes := i.bytes) hroom (Nat.le_trans (Nat.mul_le_mul hlim hb) (by decide))
 have h48' : ¬ (281474976710656 < Builtin.nextslicecap (sLen + n) sCap * i.bytes) := by omega
 have hmax : ¬ (9223372036854775807 < ((sLen : Int) + (n : Int))) := by omega
 have hzr : (zeroValue (elT P t)).run P w.drew = .ok z w.drew := run_zero hi hz _
 simp [Builtin.append_, run_underlying (slT_of hs), run_sizeOf' hI, hx, Nat.not_le.2 hroom, hn, ho, typeInfo, hi, h48', hzr, IntKind.max, IntKind.bits, IntKind.signed, hmax, newRow, grownCap, Question.forced]
theorem flat_idx {sz : Nat} : ∀ {ys : List DV} (hys : ∀ y ∈ ys, y.cells.length = sz) {r : Nat} {d : DV}, (ys.flatMap DV.cells)[r]? = some d → ∃ q j y, ys[q]? = some y ∧ y.cells[j]? = some d ∧ r = q * sz + j
 | [], _, r, d, h => by simp at h
 | y :: ys, hys, r, d, h => by
  rw [List.flatMap_cons] at h
  have hy := hys y (by simp)
  by_cases hr : r < y.cells.length
  ·rw [List.getElem?_append_left hr] at h
   exact ⟨0, r, y, rfl, h, by omega⟩
  ·rw [List.getElem?_append_right (by omega)] at h
   obtain ⟨q, j, z, h1, h2, h3⟩ := flat_idx (fun z hz => hys z (by simp [hz])) h
   refine ⟨q + 1, j, z, by simpa using h1, h2, ?_⟩
   rw [Nat.add_mul]; omega
theorem flat_len {sz : Nat} : ∀ {ys : List DV} (_ : ∀ y ∈ ys, y.cells.length = sz), (flatD ys).length = ys.length * sz
 | [], _ => by simp [flatD]
 | y :: ys, hys => by
  have h1 := flat_len (ys := ys) fun z hz => hys z (by simp [hz])
  have h2 := hys y (by simp)
  simp only [flatD, List.length_map, List.flatMap_cons, List.length_append, List.length_cons] at h1 ⊢
  rw [h1, h2, Nat.add_mul]; omega
theorem append_gro {t : TypeId} {vs vx : Value} {n : Nm} {len : Nat} {cs : List AV} {i : TypeInfo} {z : Value} {news : List Value} {ys : List DV} (H : HRel P w0 h k m β w) (hvs : R m β vs (.gro n len)) (hs : slT P t = true) (hi : P.info? (elT P t) = some i) (hz0 : i.zero = some z) (hzs : z.cells.size = szT P (elT P t)) (hsz0 : 0 < szT P (elT P t)) (hby : bytesT P (elT P t) ≤ 1024)
  (hN : NW m (szT P (elT P t)) news ys) (hys : ∀ y ∈ ys, y.cells.length = szT P (elT P t)) (hlen : ∀ w, (Builtin.lenOf vx).run P w = .ok ys.length w) (hn1 : (Builtin.firstCells (szT P (elT P t)) ys.length vx).run P w = .ok news.toArray w) (hn2 : (Builtin.firstCells (szT P (elT P t)) ys.length vx).run P w.drew = .ok news.toArray w.drew)
  (hn : h n = some (.gro (elT P t) len cs)) (hcs : cs.length = len * szT P (elT P t)) (hlim : len + ys.length ≤ 16777216) (ty : TypeId) :
  ∃ v w' m' β', (Builtin.append_ #[t, t] ty #[vs, vx]).run P w = .ok v w' ∧ m.le m' ∧ β.le β' ∧ (∀ x, β x = none → β' x = none) ∧ HRel P w0 (upd h n (some (.gro (elT P t) (len + ys.length) (cs ++ flatD ys)))) k m' β' w' ∧ R m' β' v (.gro n (len + ys.length)) := by
 have hI : (P.info? (elT P t)).isSome = true := by simp [hi]
 cases hvs with
 | @gro _ _ _ p v hx hb hv hvl ha =>
 obtain ⟨q, hq, hver, hob⟩ := H.obj n _ hn
 rw [hb] at hq; cases hq
 rw [hv] at hver; cases hver
 obtain ⟨base, hxv, hab⟩ := ha rfl
 clear ha hx
 subst hxv
 have hkn : n.1 < k := H.dom n p hb
 have grow : ys ≠ [] → ∀ b c q, β n = some q → q.le ⟨b, c, some (len + ys.length)⟩ := fun hy b c q hq => by
  rw [hb] at hq; cases hq
  have := List.length_pos_iff.2 hy
  exact .inr ⟨_, _, hv, rfl, by omega⟩
 have hflat : ∀ (r : Nat) (a : AV), (flatD ys)[r]? = some a → ∃ u, news[r]? = some u ∧ u.oneCell' = true ∧ R m β u a := fun r a hr => by
  unfold flatD at hr
  rw [List.getElem?_map, Option.map_eq_some_iff] at hr
  obtain ⟨d, hd, rfl⟩ := hr
  obtain ⟨q, j, y, h1, h2, h3⟩ := flat_idx hys hd
  obtain ⟨_, c, h4, h5⟩ := hN.get q j y d h1 h2
  subst h3
  exact ⟨c, h4, hN.one c (List.mem_of_getElem? h4), .d h5⟩
 have hfl := flat_len hys
 obtain ⟨olds, ho1, ho2, ho3, hc0, hcm⟩ : ∃ olds : List Value, olds.length = len * szT P (elT P t) ∧ (Builtin.firstCells (szT P (elT P t)) len (.slice base len p.2)).run P w.drew = .ok olds.toArray w.drew ∧ (∀ (r : Nat) (a : AV), cs[r]? = some a → ∃ u, olds[r]? = some u ∧ u.oneCell' = true ∧ R m β u a) ∧ len ≤ p.2 ∧ p.2 ≤ maxLen := by
  rcases hob with ⟨h1, h2, h3⟩ | ⟨C, g1, g2, g3, g4, g5, g6, g7⟩
  ·subst h1; subst h3
   refine ⟨[], by simp, ?_, fun r a hr => by simp at hr, by omega, by rw [h2]; simp [maxLen]⟩
   cases base <;> simp [Builtin.firstCells, loadCells, loadCellsFrom]
  ·have hm : len * szT P (elT P t) ≤ C.size := by rw [g2]; exact Nat.mul_le_mul_right _ g3
   refine ⟨(List.range (len * szT P (elT P t))).map fun j => (C[j]?).getD undef, by simp, ?_, fun r a hr => ?_, g3, g4⟩
   ·rcases hab with ⟨e1, e2⟩ | e1
    ·subst e1; cases base <;> simp [Builtin.firstCells, loadCells, loadCellsFrom]
    ·subst e1
     show (loadCells _ (len * szT P (elT P t))).run P _ = _
     have hcell : ∀ j, j < len * szT P (elT P t) → w.drew.cell? ((⟨p.1, 0, none⟩ : Addr).add j) = some ((C[j]?).getD undef) := fun j hj => by
      have hj' : j < C.size := by omega
      rw [add_none', Array.getElem?_eq_getElem hj', Nat.zero_add]
      have g1' : w.drew.heap[p.1]? = _ := g1
      simp [World.cell?, g1', hj']
     rw [run_loadCells _ _ (len * szT P (elT P t)) (fun j => (C[j]?).getD undef) hcell]
     first | done | simp
   ·have hr' := (List.getElem?_eq_some_iff.1 hr).1
    have hj' : r < C.size := by omega
    obtain ⟨u1, u2⟩ := g6 r _ a (Array.getElem?_eq_getElem hj') hr
    exact ⟨C[r], by rw [List.getElem?_map, List.getElem?_range (by omega)]; simp [hj'], u1, u2⟩
 have hboth : ∀ (L : List Value), (∀ r, r < len * szT P (elT P t) → L[r]? = olds[r]?) → (∀ r, r < ys.length * szT P (elT P t) → L[len * szT P (elT P t) + r]? = news[r]?) → ∀ (r : Nat) (u : Value) (a : AV), L[r]? = some u → (cs ++ flatD ys)[r]? = some a → u.oneCell' = true ∧ R m β u a := by
  intro L h1 h2 r u a hu ha
  by_cases hr : r < len * szT P (elT P t)
  ·rw [List.getElem?_append_left (by omega)] at ha
   obtain ⟨u', e1, e2, e3⟩ := ho3 r a ha
   rw [h1 r hr, e1] at hu; cases hu
   exact ⟨e2, e3⟩
  ·rw [List.getElem?_append_right (by omega), hcs] at ha
   obtain ⟨u', e1, e2, e3⟩ := hflat _ a ha
   have hlt := (List.getElem?_eq_some_iff.1 ha).1
   have := h2 (r - len * szT P (elT P t)) (by omega)
   rw [show len * szT P (elT P t) + (r - len * szT P (elT P t)) = r by omega, hu, e1] at this
   cases this
   exact ⟨e2, e3⟩
 have hcl : (cs ++ flatD ys).length = (len + ys.length) * szT P (elT P t) := by rw [List.length_append, hcs, hfl, Nat.add_mul]
 by_cases hroom : p.2 < len + ys.length
 ·have hy : ys ≠ [] := fun e => by subst e; simp at hroom; omega
  have hrun := run_app_new hs hi hz0 (hlen w) hn2 ho2 hroom hlim hby ty
  have hge := grownCap_ge w (len + ys.length) p.2 (elT P t)
  have hle := grownCap_le_maxLen w (len + ys.length) p.2 (elT P t) (by unfold maxLen; omega)
  generalize grownCap w (len + ys.length) p.2 (elT P t) = nc at hrun hge hle
  generalize hC : olds.toArray ++ (news.toArray ++ Builtin.zeroCells z.cells (nc - (len + ys.length))) = C at hrun
  have hlC : C.size = nc * szT P (elT P t) := by
   rw [← hC]
   simp only [Array.size_append, List.size_toArray, size_zeroCells, hzs, ho1, hN.len]
   rw [← Nat.add_mul, ← Nat.add_mul]
   congr 1; omega
  have hCx : ∀ r, r < len * szT P (elT P t) → C.toList[r]? = olds[r]? := fun q hq => by
   rw [Array.getElem?_toList, ← hC, Array.getElem?_append_left (by simp [ho1]; exact hq), List.getElem?_toArray]
  have hCy : ∀ r, r < ys.length * szT P (elT P t) → C.toList[len * szT P (elT P t) + r]? = news[r]? := fun q hq => by
   rw [Array.getElem?_toList, ← hC, Array.getElem?_append_right (by simp [ho1]), Array.getElem?_append_left (by simp [ho1, hN.len]; exact hq)]
   simp [ho1]
  have hf := fun o => H.fresh (Nat.le_refl w.heap.size) o
  refine ⟨_, _, m, updB β n ⟨w.heap.size, nc, some (len + ys.length)⟩, hrun, .rfl' m, updB_le (grow hy _ _), fun x h0 => updB_none (fun e => by subst e; rw [hb] at h0; cases h0) h0, ?_, ?_⟩
  ·refine H.upd1 (grow hy _ _) hkn (Below.alloc (Below.drew H.ext) (by simpa using H.size) _) (.rfl' m) (fun b o v hv => ?_) ?_ (fun _ => H.size) ?_
   ·obtain ⟨h1, h2⟩ := H.mem b o v hv
    exact ⟨(World.cell?_alloc_lt w.drew _ ⟨b, o, none⟩ (H.mem_lt hv)).trans h1, h2⟩
   ·refine ⟨rfl, .inr ⟨C, heap_alloc_new w.drew _, hlC, by show len + ys.length ≤ nc; omega, hle, hcl, fun r u a hu ha => ?_, fun o => hf o⟩⟩
    obtain ⟨e1, e2⟩ := hboth C.toList hCx hCy r u a (by rw [Array.getElem?_toList]; exact hu) ha
    exact ⟨e1, e2.mono (.rfl' m) (updB_le (grow hy _ _))⟩
   ·intro x' p' ob' _ hx hp hr
    have := H.lt hx hp hr
    exact ⟨fun _ => Nat.ne_of_lt this, heap_alloc_old w.drew _ this, fun o => rfl⟩
  ·exact .gro (p := ⟨w.heap.size, nc, some (len + ys.length)⟩) ⟨_, _, rfl⟩ (updB_self _ _ _) rfl (Nat.le_refl _) fun _ => ⟨some ⟨w.heap.size, 0, none⟩, rfl, .inr rfl⟩
 ·by_cases hy : ys = []
  ·subst hy
   have hnn : news = [] := List.eq_nil_of_length_eq_zero (by rw [hN.len]; simp)
   subst hnn
   have hrun := run_app_room (base := base) (sLen := len) (sCap := p.2) hs hI (hlen w) hn1 (by simpa using hc0) ty w (fun a _ => rfl) (fun _ => rfl)
   refine ⟨_, w, m, β, hrun, .rfl' m, .rfl' β, fun _ h => h, ?_, .gro ⟨_, _, rfl⟩ hb hv (Nat.le_refl _) fun _ => ⟨base, rfl, hab⟩⟩
   have e : upd h n (some (.gro (elT P t) (len + ([] : List DV).length) (cs ++ flatD []))) = h := by
    have e2 : cs ++ flatD [] = cs := by simp [flatD]
    rw [e2]
    funext x; unfold upd; split
    ·subst_vars; exact hn.symm
    ·rfl
   rw [e]; exact H
  ·have hpos := List.length_pos_iff.2 hy
   have he : ¬ (len = 0 ∧ p.2 = 0) := fun e => by omega
   rcases hob with hob | ⟨C, g1, g2, g3, g4, g5, g6, g7⟩
   ·exact absurd ⟨hob.1, hob.2.1⟩ he
   have ha' : base = some ⟨p.1, 0, none⟩ := hab.resolve_left he
   subst ha'
   have hB : w0.heap.size ≤ p.1 := H.new n p _ hb hn he
   have hfit : (len + ys.length) * szT P (elT P t) ≤ C.size := by rw [g2]; exact Nat.mul_le_mul_right _ (by omega)
   have hst := run_storeCells_at P p.1 (len * szT P (elT P t)) (elT P t) news 0 C w g1 (by rw [hN.len]; rw [Nat.add_mul] at hfit; omega) hN.one
   generalize hC' : (C.toList.take (len * szT P (elT P t) + 0) ++ news ++ C.toList.drop (len * szT P (elT P t) + 0 + news.length)).toArray = C' at hst
   have hlC : len * szT P (elT P t) ≤ C.size := by rw [Nat.add_mul] at hfit; omega
   have hszC' : C'.size = C.size := by
    rw [← hC']
    simp [hN.len]
    rw [Nat.add_mul] at hfit
    omega
   have hlo : ∀ q, q < len * szT P (elT P t) → C'[q]? = C[q]? := fun q hq => by
    rw [← hC']
    simp only [Nat.add_zero, List.getElem?_toArray]
    rw [List.append_assoc, List.getElem?_append_left (by simp; omega), List.getElem?_take, if_pos hq, Array.getElem?_toList]
   have hmi : ∀ q, q < ys.length * szT P (elT P t) → C'[len * szT P (elT P t) + q]? = news[q]? := fun q hq => by
    rw [← hC']
    simp only [Nat.add_zero, List.getElem?_toArray]
    rw [List.append_assoc, List.getElem?_append_right (by simp; omega), List.getElem?_append_left (by simp [hN.len]; rw [Nat.min_eq_left hlC]; omega)]
    simp [Nat.min_eq_left hlC]
   have hrun := run_app_room (base := some ⟨p.1, 0, none⟩) (sLen := len) (sCap := p.2) hs hI (hlen w) hn1 (by omega) ty (w.setRow p.1 C') (fun a e => by cases e; rw [add_none', Nat.zero_add]; exact hst) (fun e => by cases e)
   refine ⟨_, _, m, updB β n ⟨p.1, p.2, some (len + ys.length)⟩, hrun, .rfl' m, updB_le (grow hy _ _), fun x h0 => updB_none (fun e => by subst e; rw [hb] at h0; cases h0) h0, ?_, .gro (p := ⟨p.1, p.2, some (len + ys.length)⟩) ⟨_, _, rfl⟩ (updB_self _ _ _) rfl (Nat.le_refl _) fun _ => ⟨some ⟨p.1, 0, none⟩, rfl, .inr rfl⟩⟩
   refine H.upd1 (grow hy _ _) hkn (H.ext.trans ⟨rfl, rfl, rfl, by simp [World.setRow], fun k hk => setRow_other w p.1 k C' (by omega)⟩) (.rfl' m) (fun b o v hv => ?_) ?_ (fun _ => hB) ?_
   ·have hb' : b ≠ p.1 := fun e => by subst e; rw [g7] at hv; cases hv
    obtain ⟨h2, h3⟩ := H.mem b o v hv
    exact ⟨(cell_setRow_other w p.1 C' ⟨b, o, none⟩ hb').trans h2, h3⟩
   ·refine ⟨rfl, .inr ⟨C', setRow_heap w p.1 C C' (elT P t) _ g1, hszC'.trans g2, by show len + ys.length ≤ p.2; omega, g4, hcl, fun r u a hu ha => ?_, g7⟩⟩
    by_cases hr : r < len * szT P (elT P t)
    ·rw [List.getElem?_append_left (by omega)] at ha
     rw [hlo r hr] at hu
     obtain ⟨e1, e2⟩ := g6 r u a hu ha
     exact ⟨e1, e2.mono (.rfl' m) (updB_le (grow hy _ _))⟩
    ·rw [List.getElem?_append_right (by omega), hcs] at ha
     obtain ⟨u', e1, e2, e3⟩ := hflat _ a ha
     have hlt := (List.getElem?_eq_some_iff.1 ha).1
     have := hmi (r - len * szT P (elT P t)) (by omega)
     rw [show len * szT P (elT P t) + (r - len * szT P (elT P t)) = r by omega, hu, e1] at this
     cases this
     exact ⟨e2, e3.mono (.rfl' m) (updB_le (grow hy _ _))⟩
   ·intro x' p' ob' hx' hob' hp' hr'
    have hne : p'.1 ≠ p.1 := fun e => hx' (H.inj x' n p' p ob' _ hob' hn hp' hb hr' he e)
    exact ⟨fun _ => hne, setRow_other w p.1 p'.1 C' hne, fun o => rfl⟩
theorem append_ok {t : TypeId} {vs vx : Value} {s x : AV} (H : HRel P w0 h k m β w) (hbn : β nm = none) (hk : nm.1 < k) (hvs : R m β vs s) (hvx : R m β vx x) (hok : okAppend P t t s x h) (ty : TypeId) :
  VRes P w0 h k m β w nm (effAppend P nm t s x h) (Builtin.append_ #[t, t] ty #[vs, vx]) := by
 obtain ⟨hs, _, hsz0, hby, hz, hx, hss⟩ := hok
 obtain ⟨i, z, hi, hz0, hzs, hsi, h1, _⟩ := zeroOk_of hz
 have hI : (P.info? (elT P t)).isSome = true := by simp [hi]
 obtain ⟨news, hN, hys, hlen, hn1, hn2⟩ := source H hvx hx
 generalize hY : newsOf h x = ys at hN hys hlen hn1 hn2 hss
 have big : ∀ (tn : Nm) (xs : List DV) (base : Option Addr) (cap : Nat), (∀ c q, β tn = some q → q.le ⟨w.heap.size, c, some (xs ++ ys).length⟩) → tn.1 < k → vs = .slice base xs.length cap → RD m vs (.sl xs) → (∀ y ∈ xs, y.cells.length = szT P (elT P t)) → cap < xs.length + ys.length → xs.length + ys.length ≤ 16777216 →
   ∃ v w' m' β', (Builtin.append_ #[t, t] ty #[vs, vx]).run P w = .ok v w' ∧ m.le m' ∧ β.le β' ∧ (∀ n, n ≠ tn → β n = none → β' n = none) ∧ HRel P w0 (upd h tn (some (.perm (elT P t) (xs ++ ys).length))) k m' β' w' ∧ R m' β' v (.own tn (xs ++ ys)) := by
  intro tn xs base cap hbn hk hv hr hxs hroom hlim
  obtain ⟨a, cap', olds, hv', hc1, hc2, hO, ho, _⟩ := loaded (P := P) hr hxs (fun b o v hm => (H.mem b o v hm).2)
  rw [hv] at hv'; cases hv'
  have ho2 := ho w.drew (fun b o v hm => (H.mem b o v hm).1)
  rw [hv] at ho2
  have hrun := run_app_new hs hi hz0 (hlen w) hn2 ho2 hroom hlim hby ty
  rw [← hv] at hrun
  have hge := grownCap_ge w (xs.length + ys.length) cap (elT P t)
  have hle := grownCap_le_maxLen w (xs.length + ys.length) cap (elT P t) (by unfold maxLen; omega)
  generalize grownCap w (xs.length + ys.length) cap (elT P t) = nc at hrun hge hle
  generalize hC : olds.toArray ++ (news.toArray ++ Builtin.zeroCells z.cells (nc - (xs.length + ys.length))) = C at hrun
  have hlC : C.size = nc * szT P (elT P t) := by
   rw [← hC]
   simp only [Array.size_append, List.size_toArray, size_zeroCells, hzs, hO.len, hN.len]
   rw [← Nat.add_mul, ← Nat.add_mul]
   congr 1; omega
  have hCx : ∀ q, q < xs.length * szT P (elT P t) → C[q]? = olds[q]? := fun q hq => by
   rw [← hC, Array.getElem?_append_left (by simp [hO.len]; exact hq), List.getElem?_toArray]
  have hCy : ∀ q, q < ys.length * szT P (elT P t) → C[xs.length * szT P (elT P t) + q]? = news[q]? := fun q hq => by
   rw [← hC, Array.getElem?_append_right (by simp [hO.len]), Array.getElem?_append_left (by simp [hO.len, hN.len]; exact hq)]
   simp [hO.len]
  have hf := fun o => H.fresh (Nat.le_refl w.heap.size) o
  have hCg : ∀ q c, q < (xs ++ ys).length * szT P (elT P t) → C[q]? = some c → c.oneCell' = true := fun q c hq hc => by
   rw [List.length_append, Nat.add_mul] at hq
   by_cases hlt : q < xs.length * szT P (elT P t)
   ·rw [hCx q hlt] at hc; exact hO.one c (List.mem_of_getElem? hc)
   ·have := hCy (q - xs.length * szT P (elT P t)) (by omega)
    rw [show xs.length * szT P (elT P t) + (q - xs.length * szT P (elT P t)) = q by omega, hc] at this
    exact hN.one c (List.mem_of_getElem? this.symm)
  let f : Nat → Option Value := fun q => if q < (xs ++ ys).length * szT P (elT P t) then C[q]? else none
  have hmm : ∀ q, m.add w.heap.size f w.heap.size q = f q := fun q => Mem.add_new _ _ (hf q)
  refine ⟨_, _, m.add w.heap.size f, updB β tn ⟨w.heap.size, nc, some (xs ++ ys).length⟩, hrun, Mem.add_le _ _ _, updB_le (hbn nc), fun n hn => updB_none hn, ?_, ?_⟩
  ·refine H.upd1 (hbn nc) hk (Below.alloc (Below.drew H.ext) (by simpa using H.size) _) (Mem.add_le _ _ _) (fun b o v hv => ?_) ?_ (fun _ => H.size) ?_
   ·by_cases hb : b = w.heap.size
    ·subst hb
     rw [hmm o] at hv
     simp only [f] at hv
     split at hv
     ·rename_i hlt
      exact ⟨(World.cell?_alloc_new w.drew C (elT P t) o).trans hv, hCg o v hlt hv⟩
     ·cases hv
    ·rw [Mem.add_ne _ _ hb] at hv
     obtain ⟨h1, h2⟩ := H.mem b o v hv
     exact ⟨(World.cell?_alloc_lt w.drew _ ⟨b, o, none⟩ (H.mem_lt hv)).trans h1, h2⟩
   ·refine ⟨rfl, .inr ⟨C, heap_alloc_new w.drew _, hlC, ?_, fun o ho => ?_⟩⟩
    ·simp only [List.length_append]; omega
    ·rw [hmm o]
     simp only [f]
     rw [if_neg (by omega)]
   ·intro x' p' ob' _ hx hp hr
    have := H.lt hx hp hr
    exact ⟨fun _ => Nat.ne_of_lt this, heap_alloc_old w.drew _ this, fun o => Mem.add_ne _ _ (Nat.ne_of_lt this) o⟩
  ·refine .own (p := ⟨w.heap.size, nc, some (xs ++ ys).length⟩) ?_ (updB_self _ _ _) rfl (Nat.le_refl _) fun _ => ⟨some ⟨w.heap.size, 0, none⟩, by simp, .inr rfl⟩
   have hrd : RD (m.add w.heap.size f) (.slice (some ⟨w.heap.size, 0, none⟩) (xs ++ ys).length nc) (.sl (xs ++ ys)) := by
    refine RD.append (by simpa using hge) hle hxs hys (fun q j y d hy hd => ?_) fun q j y d hy hd => ?_
    ·obtain ⟨hj, c, h2, h3⟩ := hO.get q j y d hy hd
     have hq : q < xs.length := (List.getElem?_eq_some_iff.1 hy).1
     have hlt := idx_lt hq hj
     refine ⟨c, ?_, h3.mono (Mem.add_le _ _ _)⟩
     rw [hmm]
     simp only [f]
     rw [if_pos (by simp only [List.length_append, Nat.add_mul]; omega), hCx _ hlt, h2]
    ·obtain ⟨hj, c, h2, h3⟩ := hN.get q j y d hy hd
     have hq : q < ys.length := (List.getElem?_eq_some_iff.1 hy).1
     have hlt := idx_lt hq hj
     refine ⟨c, ?_, h3.mono (Mem.add_le _ _ _)⟩
     rw [hmm]
     simp only [f]
     rw [if_pos (by simp only [List.length_append, Nat.add_mul]; omega), Nat.add_mul, Nat.add_assoc, hCy _ hlt, h2]
   rwa [List.length_append] at hrd
 cases hvs with
 | nil =>
  simp only [effAppend, VRes, Eff.ap, List.foldl_cons, List.foldl_nil, hY]
  by_cases hy : ys = []
  ·subst hy
   have hnn : news = [] := List.eq_nil_of_length_eq_zero (by rw [hN.len]; simp)
   subst hnn
   have hrun := run_app_room (base := none) (sLen := 0) (sCap := 0) hs hI (hlen w) hn1 (by simp) ty w (fun a _ => rfl) (fun _ => rfl)
   refine ⟨_, w, m, updB β nm ⟨0, 0, some 0⟩, hrun, .rfl' m, updB_le (le_new hbn), fun n hn => updB_none hn, by simpa using H.perm0 hbn hk _ 0 0, ?_⟩
   exact .own (p := ⟨0, 0, some 0⟩) (v := 0) .nil (updB_self _ _ _) rfl (Nat.le_refl _) fun _ => ⟨none, rfl, .inl ⟨rfl, rfl⟩⟩
  ·have hpos : 0 < ys.length := List.length_pos_iff.2 hy
   have hss' : ys.length ≤ 16777216 := hss
   have := big nm [] none 0 (fun c => le_new hbn) hk rfl .nil (by simp) (by simpa using hpos) (by simpa using hss')
   simpa using this
 | @own _ n xs p v hr hb hv hvl ha =>
  obtain ⟨hn, hxs, hlim⟩ := hss
  simp only [effAppend, VRes, Eff.ap, List.foldl_cons, List.foldl_nil, hY]
  obtain ⟨q, hq, hver, hob⟩ := H.obj n _ hn
  rw [hb] at hq; cases hq
  rw [hv] at hver; cases hver
  obtain ⟨base, hxv, ha⟩ := ha rfl
  obtain ⟨hc1, hc2⟩ : xs.length ≤ p.2 ∧ p.2 ≤ maxLen := by
   obtain ⟨a9, c9, e9, h9, h10, _⟩ := hr.piece (l := 0) (hh := 0) hxs (Nat.le_refl _) (Nat.zero_le _)
   rw [hxv] at e9
   cases e9
   exact ⟨h9, h10⟩
  have hkn : n.1 < k := H.dom n p hb
  have grow : ys ≠ [] → ∀ b c q, β n = some q → q.le ⟨b, c, some (xs ++ ys).length⟩ := fun hy b c q hq => by
   rw [hb] at hq; cases hq
   have := List.length_pos_iff.2 hy
   exact .inr ⟨_, _, hv, rfl, by simp only [List.length_append]; omega⟩
  by_cases hroom : p.2 < xs.length + ys.length
  ·have hy : ys ≠ [] := fun e => by subst e; simp at hroom; omega
   obtain ⟨v, w', m', β', g1, g2, g3, g4, g5⟩ := big n xs base p.2 (grow hy _) hkn hxv hr hxs hroom hlim
   exact ⟨v, w', m', β', g1, g2, g3, fun x hx h0 => g4 x (fun e => by subst e; rw [hb] at h0; cases h0) h0, g5⟩
  ·by_cases hy : ys = []
   ·subst hy
    have hnn : news = [] := List.eq_nil_of_length_eq_zero (by rw [hN.len]; simp)
    subst hnn
    have hrun := run_app_room (base := base) (sLen := xs.length) (sCap := p.2) hs hI (hlen w) hn1 (by simpa using hc1) ty w (fun a _ => rfl) (fun _ => rfl)
    rw [← hxv] at hrun
    rw [List.append_nil]
    refine ⟨_, w, m, β, hrun, .rfl' m, .rfl' β, fun _ _ h => h, ?_, .own (by simpa [hxv] using hr) hb hv (Nat.le_refl _) fun _ => ⟨base, by simp, ha⟩⟩
    have e : upd h n (some (.perm (elT P t) xs.length)) = h := by
     funext x; unfold upd; split
     ·subst_vars; exact hn.symm
     ·rfl
    rw [e]; exact H
   ·have he : ¬ (xs.length = 0 ∧ p.2 = 0) := fun e => by have := List.length_pos_iff.2 hy; omega
    rcases hob with hob | ⟨C, g1, g2, g3, g4⟩
    ·exact absurd hob he
    have ha' : base = some ⟨p.1, 0, none⟩ := ha.resolve_left he
    subst ha'
    have hB : w0.heap.size ≤ p.1 := H.new n p _ hb hn he
    have hfit : (xs.length + ys.length) * szT P (elT P t) ≤ C.size := by rw [g2]; exact Nat.mul_le_mul_right _ (by omega)
    have hst := run_storeCells_at P p.1 (xs.length * szT P (elT P t)) (elT P t) news 0 C w g1 (by rw [hN.len]; rw [Nat.add_mul] at hfit; omega) hN.one
    generalize hC' : (C.toList.take (xs.length * szT P (elT P t) + 0) ++ news ++ C.toList.drop (xs.length * szT P (elT P t) + 0 + news.length)).toArray = C' at hst
    have hlC : xs.length * szT P (elT P t) ≤ C.size := by rw [Nat.add_mul] at hfit; omega
    have hszC' : C'.size = C.size := by
     rw [← hC']
     simp [hN.len]
     rw [Nat.add_mul] at hfit
     omega
    have hlo : ∀ q, q < xs.length * szT P (elT P t) → C'[q]? = C[q]? := fun q hq => by
     rw [← hC']
     simp only [Nat.add_zero, List.getElem?_toArray]
     rw [List.append_assoc, List.getElem?_append_left (by simp; omega), List.getElem?_take, if_pos hq, Array.getElem?_toList]
    have hmi : ∀ q, q < ys.length * szT P (elT P t) → C'[xs.length * szT P (elT P t) + q]? = news[q]? := fun q hq => by
     rw [← hC']
     simp only [Nat.add_zero, List.getElem?_toArray]
     rw [List.append_assoc, List.getElem?_append_right (by simp; omega), List.getElem?_append_left (by simp [hN.len]; rw [Nat.min_eq_left hlC]; omega)]
     simp [Nat.min_eq_left hlC]
    have hrun := run_app_room (base := some ⟨p.1, 0, none⟩) (sLen := xs.length) (sCap := p.2) hs hI (hlen w) hn1 (by omega) ty (w.setRow p.1 C') (fun a e => by cases e; rw [add_none', Nat.zero_add]; exact hst) (fun e => by cases e)
    rw [← hxv] at hrun
    let f : Nat → Option Value := fun q => if xs.length * szT P (elT P t) ≤ q ∧ q < (xs ++ ys).length * szT P (elT P t) then C'[q]? else none
    have hmo : ∀ q, xs.length * szT P (elT P t) ≤ q → m.add p.1 f p.1 q = f q := fun q hq => Mem.add_new _ _ (g4 q hq)
    refine ⟨_, _, m.add p.1 f, updB β n ⟨p.1, p.2, some (xs ++ ys).length⟩, hrun, Mem.add_le _ _ _, updB_le (grow hy _ _), fun x hx h0 => updB_none (fun e => by subst e; rw [hb] at h0; cases h0) h0, ?_, ?_⟩
    ·refine H.upd1 (grow hy _ _) hkn (H.ext.trans ⟨rfl, rfl, rfl, by simp [World.setRow], fun k hk => setRow_other w p.1 k C' (by omega)⟩) (Mem.add_le _ _ _) (fun b o v hv => ?_) ?_ (fun _ => hB) ?_
     ·by_cases hb' : b = p.1
      ·subst hb'
       rw [cell_setRow_same w p.1 o C C' (elT P t) _ g1]
       cases hmv : m p.1 o with
       | some u =>
        have := Mem.add_le m p.1 f p.1 o u hmv
        rw [hv] at this; cases this
        obtain ⟨h2, h3⟩ := H.mem _ _ _ hmv
        have ho : o < xs.length * szT P (elT P t) := by
         rcases Nat.lt_or_ge o (xs.length * szT P (elT P t)) with h | h
         ·exact h
         ·rw [g4 o h] at hmv; cases hmv
        rw [hlo o ho]
        simp [World.cell?, g1] at h2
        exact ⟨h2, h3⟩
       | none =>
        rw [Mem.add_new _ _ hmv] at hv
        simp only [f] at hv
        split at hv
        ·rename_i hlt
         refine ⟨hv, ?_⟩
         have hlt2 := hlt.2
         rw [List.length_append, Nat.add_mul] at hlt2
         have := hmi (o - xs.length * szT P (elT P t)) (by omega)
         rw [show xs.length * szT P (elT P t) + (o - xs.length * szT P (elT P t)) = o by omega, hv] at this
         exact hN.one _ (List.mem_of_getElem? this.symm)
        ·cases hv
      ·rw [Mem.add_ne _ _ hb'] at hv
       obtain ⟨h2, h3⟩ := H.mem b o v hv
       exact ⟨(cell_setRow_other w p.1 C' ⟨b, o, none⟩ hb').trans h2, h3⟩
     ·refine ⟨rfl, .inr ⟨C', setRow_heap w p.1 C C' (elT P t) _ g1, hszC'.trans g2, ?_, fun o ho => ?_⟩⟩
      ·simp only [List.length_append]; omega
      ·have hge : xs.length * szT P (elT P t) ≤ (xs ++ ys).length * szT P (elT P t) := Nat.mul_le_mul_right _ (by simp)
       rw [hmo o (by omega)]
       simp only [f]
       rw [if_neg (by omega)]
     ·intro x' p' ob' hx' hob' hp' hr'
      have hne : p'.1 ≠ p.1 := fun e => hx' (H.inj x' n p' p ob' _ hob' hn hp' hb hr' he e)
      exact ⟨fun _ => hne, setRow_other w p.1 p'.1 C' hne, fun o => Mem.add_ne _ _ hne o⟩
    ·refine .own (p := ⟨p.1, p.2, some (xs ++ ys).length⟩) ?_ (updB_self _ _ _) rfl (Nat.le_refl _) fun _ => ⟨some ⟨p.1, 0, none⟩, by simp, .inr rfl⟩
     have hrd : RD (m.add p.1 f) (.slice (some ⟨p.1, 0, none⟩) (xs ++ ys).length p.2) (.sl (xs ++ ys)) := by
      rw [hxv] at hr
      refine RD.append (by simp; omega) hc2 hxs hys (fun q j y d hy hd => ?_) fun q j y d hy hd => ?_
      ·obtain ⟨c, h2, h3⟩ := hr.cell hxs hy hd
       exact ⟨c, Mem.add_le _ _ _ _ _ _ (by rwa [Nat.zero_add] at h2), h3.mono (Mem.add_le _ _ _)⟩
      ·obtain ⟨hj, c, h2, h3⟩ := hN.get q j y d hy hd
       have hq : q < ys.length := (List.getElem?_eq_some_iff.1 hy).1
       have hlt := idx_lt hq hj
       refine ⟨c, ?_, h3.mono (Mem.add_le _ _ _)⟩
       rw [Nat.add_mul, Nat.add_assoc, hmo _ (by omega)]
       simp only [f]
       rw [if_pos (by simp only [List.length_append, Nat.add_mul]; omega), hmi _ hlt, h2]
     rwa [List.length_append] at hrd
 | @gro _ n len p v hgx hb hv hvl ha =>
  obtain ⟨hn, hlim⟩ := hss
  split at hn
  ·rename_i e' len' cs hcs
   obtain ⟨rfl, rfl, hcl⟩ := hn
   obtain ⟨v', w', m', β', q1, q2, q3, q4, q5, q6⟩ := append_gro H (.gro hgx hb hv hvl ha) hs hi hz0 hzs hsz0 hby hN hys hlen hn1 hn2 hcs hcl hlim ty
   simp only [effAppend, VRes, Eff.ap, List.foldl_cons, List.foldl_nil, hY, groCs, hcs]
   exact ⟨v', w', m', β', q1, q2, q3, fun x _ h0 => q4 x h0, q5, q6⟩
  ·exact hn.elim
 | _ => exact hss.elim
end
section
variable {P : Program} {w0 : GW} {w : World} {h : Heap} {k : Nat} {m : Mem} {β : Bl} {nm : Nm}
theorem flat_get {cs : List AV} : ∀ (n i : Nat), i < n * cs.length → (List.replicate n cs).flatten[i]? = cs[i % cs.length]?
 | 0, i, hi => by simp at hi
 | n + 1, i, hi => by
  rw [List.replicate_succ, List.flatten_cons]
  by_cases hl : i < cs.length
  ·rw [List.getElem?_append_left hl, Nat.mod_eq_of_lt hl]
  ·rw [List.getElem?_append_right (by omega), flat_get n (i - cs.length) (by rw [Nat.add_mul] at hi; omega), ← Nat.mod_eq_sub_mod (by omega)]
theorem makeSlice_ok {t : TypeId} {vl vc : Value} {al ac : AV} (H : HRel P w0 h k m β w) (hbn : β nm = none) (hk : nm.1 < k) (hl : R m β vl al) (hc : R m β vc ac) (hok : okMakeSlice P t al ac) :
  VRes P w0 h k m β w nm (effMakeSlice P nm t al) (Instr.makeSlice t vl vc) := by
 obtain ⟨hs, h1, h2, h3, h4, h5, h6, h7, hz⟩ := hok
 obtain ⟨i, z, hi, hz0, hzs, hsi, hone, hzA⟩ := zeroOk_of hz
 have hI : (P.info? (elT P t)).isSome = true := by simp [hi]
 obtain ⟨k1, rfl⟩ := hl.int h1
 obtain ⟨k2, rfl⟩ := hc.int h2
 rw [h3]
 clear h3
 obtain ⟨N, hN⟩ : ∃ N : Nat, intOf' al = N := ⟨(intOf' al).toNat, by omega⟩
 rw [hN] at hl h4 h5 ⊢
 have hw : IntKind.i64.wrap (N : Int) = N := wrap_i64 (by omega) (by omega)
 have hb : i.bytes ≤ 1024 := by simpa [bytesT, hi] using h6
 have hbn' : ¬ ((i.bytes : Int) * (N : Int) > 281474976710656) := by
  have h8 : N ≤ 16777216 := by omega
  have : i.bytes * N ≤ 1024 * 16777216 := Nat.mul_le_mul hb h8
  have h9 : ((i.bytes * N : Nat) : Int) = (i.bytes : Int) * (N : Int) := by simp
  omega
 obtain ⟨hc1, hc2⟩ := constAV_cells (m := m) (β := β) hone
 have hzl : (zeroAV P (elT P t)).length = szT P (elT P t) := by rw [hzA, ← hc1, hzs]
 have hrun : ∀ cells : Array Value, (if N * szT P (elT P t) = 0 then cells = #[] else cells = (Array.range (N * szT P (elT P t))).map (z.cells[· % z.cells.size]!)) → (Instr.makeSlice t (.int k1 N) (.int k2 N)).run P w = .ok (.slice (some ⟨w.heap.size, 0, none⟩) N N) (w.alloc (.cells cells (elT P t))) := by
  intro cells hcells
  by_cases h0 : N * szT P (elT P t) = 0
  ·rw [if_pos h0] at hcells
   subst hcells
   have hN0 : N = 0 := by rcases Nat.mul_eq_zero.1 h0 with h | h <;> omega
   subst hN0
   have hw0 : IntKind.i64.wrap 0 = 0 := wrap_i64 (by omega) (by omega)
   simp [Instr.makeSlice, run_underlying (slT_of hs), asInt, asIntOf, typeInfo, hi, hw0, run_sizeOf' hI, newRow]
   have e0 : Array.range 0 = #[] := by decide
   rw [e0, Array.map_empty]
  ·rw [if_neg h0] at hcells
   have hN0 : N ≠ 0 := fun e => h0 (by rw [e]; simp)
   have hs0 : szT P (elT P t) ≠ 0 := by omega
   subst hcells
   have hzr := run_zero hi hz0 w
   have hneg : ¬ ((N : Int) < 0) := by omega
   simp only [Instr.makeSlice, Sem.run_bind, run_underlying (slT_of hs), Result.andThen_ok, asInt, asIntOf, Sem.run_pure, typeInfo, run_program, hi, hw]
   have e2 : ¬ ((2 : Int) ^ 48 < (i.bytes : Int) * (N : Int)) := by simpa using hbn'
   simp only [e2, hneg, gt_iff_lt, Int.lt_irrefl, decide_false, Bool.or_false, Bool.false_or, Bool.false_eq_true, if_false, Sem.run_pure, Result.andThen_ok, run_askRoom, Sem.run_bind, run_sizeOf' hI, Int.toNat_natCast]
   rw [if_neg h0]
   simp [hzr, newRow]
 have hcs : ∀ cells : Array Value, (if N * szT P (elT P t) = 0 then cells = #[] else cells = (Array.range (N * szT P (elT P t))).map (z.cells[· % z.cells.size]!)) → cells.size = N * szT P (elT P t) := by
  intro cells hcells
  split at hcells
  ·rename_i h0; subst hcells; simp [h0]
  ·subst hcells; simp
 obtain ⟨cells, hcells⟩ : ∃ cells : Array Value, (if N * szT P (elT P t) = 0 then cells = #[] else cells = (Array.range (N * szT P (elT P t))).map (z.cells[· % z.cells.size]!)) := by
  split
  ·exact ⟨_, rfl⟩
  ·exact ⟨_, rfl⟩
 refine ⟨_, _, m, updB β nm ⟨w.heap.size, 0, none⟩, hrun cells hcells, .rfl' m, updB_le (le_new hbn), fun n hn => updB_none hn, ?_, ?_⟩
 ·simp only [effMakeSlice, Eff.ap, List.foldl_cons, List.foldl_nil, hN, Int.toNat_natCast]
  refine H.alloc hbn hk (by rw [hcs _ hcells]; simp [hzl]) fun q v a hv ha => ?_
  have hq : q < N * szT P (elT P t) := by have := (Array.getElem?_eq_some_iff.1 hv).1; rw [hcs _ hcells] at this; exact this
  rw [if_neg (by omega)] at hcells
  subst hcells
  rw [flat_get _ _ (by rw [hzl]; exact hq), hzl, hzA] at ha
  simp only [Array.getElem?_map, Array.getElem?_range, hq, if_true, Option.map_some, Option.some.injEq] at hv
  have hm : q % szT P (elT P t) < z.cells.size := by rw [hzs]; exact Nat.mod_lt _ h7
  rw [hzs, getElem!_pos z.cells _ hm] at hv
  exact hc2 _ v a (by rw [Array.getElem?_eq_getElem hm, hv]) ha
 ·simp only [effMakeSlice, hN, Int.toNat_natCast]
  exact .arr (p := ⟨w.heap.size, 0, none⟩) (updB_self _ _ _) rfl (Nat.le_refl _) (by unfold maxLen; omega) (.inr rfl)
theorem len_ok {t ty : TypeId} {v : Value} {a : AV} (H : HRel P w0 h k m β w) (hv : R m β v a) (hok : okLen P t a) : VRes P w0 h k m β w nm (pure' (.d (.v (.int .i64 ((lenA a).getD 0))))) (Builtin.len_ #[t] ty #[v]) := by
 have hsl : ∀ a0 n cap, slT P t = true → v = .slice a0 n cap → (lenA a) = some n → VRes P w0 h k m β w nm (pure' (.d (.v (.int .i64 ((lenA a).getD 0))))) (Builtin.len_ #[t] ty #[v]) := by
  intro a0 n cap hs hv hl
  subst hv
  refine VRes.same (v := .int .i64 n) H ?_ rfl (by rw [hl]; exact .d (.v rfl))
  simp [Builtin.len_, run_underlying (slT_of hs), goInt]
 cases hv with
 | d hd =>
  cases hd with
  | @v x hx =>
   cases v with
   | string s =>
    refine VRes.same (v := .int .i64 s.size) H ?_ rfl (.d (.v rfl))
    simp [Builtin.len_, run_underlying (strT_of hok), goInt]
   | _ => obtain ⟨_, h2⟩ := hok; simp [lenA] at h2
  | nil => exact hsl _ _ _ hok.1 rfl rfl
  | sl hn _ _ _ _ _ => exact hsl _ _ _ hok.1 rfl (by rw [hn]; rfl)
  | st => obtain ⟨_, h2⟩ := hok; simp [lenA] at h2
 | nil => exact hsl _ _ _ hok.1 rfl rfl
 | own hr hb hv hl ha =>
  generalize hxx : DV.sl _ = y at hr
  cases hr with
  | nil => cases hxx; exact hsl _ _ _ hok.1 rfl rfl
  | sl hn _ _ _ _ _ => cases hxx; exact hsl _ _ _ hok.1 rfl (by rw [hn]; rfl)
  | _ => cases hxx
 | arr hb hver hc hm ho => exact hsl _ _ _ hok.1 rfl rfl
 | gro hx hb hv hl ha => obtain ⟨a, c, rfl⟩ := hx; exact hsl _ _ _ hok.1 rfl rfl
 | _ => obtain ⟨_, h2⟩ := hok; simp [lenA] at h2
theorem R.i64 {v : Value} {a : AV} (hv : R m β v a) (ha : isI64 a = true) : v = .int .i64 (intOf' a) := by
 cases hv with
 | d hd =>
  cases hd with
  | v _ =>
   cases v with
   | int kk n => cases kk <;> first | rfl | simp [isI64] at ha
   | _ => simp [isI64] at ha
  | _ => simp [isI64] at ha
 | _ => simp [isI64] at ha
def opndOk (n : Nat) : Operand → Bool
 | .tmp i => decide (i < n)
 | .const v => v.cells.all (·.oneCell')
 | _ => true
def opOk (n : Nat) (op : Op) : Bool := op.operands.all (opndOk n)
theorem ev_ok {s : St} {a : Act} {n : Nat} (hT : TRel m β s.t a.tmps) (hn : a.tmps.size = n) {x : Operand} (hx : opndOk n x = true) : R m β (a.eval x) (s.ev x) := by
 refine hT.ev hn x ?_ ?_
 ·cases x <;> first | exact hx | rfl
 ·intro v e
  subst e
  simp only [opndOk, Array.all_eq_true_iff_forall_mem] at hx
  exact hx
def NRes (P : Program) (w0 : GW) (h : Heap) (k : Nat) (m : Mem) (β : Bl) (w : World) (nm : Nm) (e : Eff) (s : Sem Next) : Prop :=
 ∃ v w' m' β', (s.run P w = .ok (.value v) w' ∨ s.run P w = .ok .skip w' ∧ v = undef) ∧ m.le m' ∧ β.le β' ∧ (∀ n, n ≠ nm → β n = none → β' n = none) ∧ HRel P w0 (e.ap h) k m' β' w' ∧ R m' β' v e.val
theorem NRes.val {e : Eff} {s : Sem Value} (hv : VRes P w0 h k m β w nm e s) : NRes P w0 h k m β w nm e (do pure (.value (← s))) := by
 obtain ⟨v, w', m', β', h1, h2⟩ := hv
 exact ⟨v, w', m', β', .inl (by simp [h1]), h2⟩
theorem NRes.unit {e : Eff} {s : Sem Unit} (hv : URes P w0 h k m β w e s) : NRes P w0 h k m β w nm e (do s; pure .skip) := by
 obtain ⟨w', m', β', h1, h2, h3, h4, h5, h6⟩ := hv
 refine ⟨undef, w', m', β', .inr ⟨by simp [h1], rfl⟩, h2, h3, fun n _ hn => h4 n hn, h5, by rw [h6]; exact .junk⟩
theorem NRes.pure {a : AV} {v : Value} (H : HRel P w0 h k m β w) (hv : R m β v a) : NRes P w0 h k m β w nm (pure' a) (Pure.pure (.value v)) :=
 ⟨v, w, m, β, .inl rfl, .rfl' m, .rfl' β, fun _ _ h => h, H, hv⟩
theorem parts_ok {s : St} {a : Act} {n : Nat} (hT : TRel m β s.t a.tmps) (hn : a.tmps.size = n) {ps : Array (Nat × Operand)} (hps : ∀ x ∈ ps, opndOk n x.2 = true) :
  (ps.map fun x => (x.1, a.eval x.2)).size = (ps.toList.map fun x => (x.1, s.ev x.2)).length ∧ ∀ (i : Nat) (x : Nat × Value) (y : Nat × AV), (ps.map fun x => (x.1, a.eval x.2))[i]? = some x → (ps.toList.map fun x => (x.1, s.ev x.2))[i]? = some y → x.1 = y.1 ∧ R m β x.2 y.2 := by
 refine ⟨by simp, fun i x y hx hy => ?_⟩
 rw [Array.getElem?_map, Option.map_eq_some_iff] at hx
 rw [List.getElem?_map, Option.map_eq_some_iff] at hy
 obtain ⟨p, hp, rfl⟩ := hx
 obtain ⟨q, hq, rfl⟩ := hy
 rw [Array.getElem?_toList, hp] at hq
 cases hq
 exact ⟨rfl, ev_ok hT hn (hps p (Array.mem_of_getElem? hp))⟩
end
def idxM (k : Int) : List (Int × DV) → Option Nat
 | [] => none
 | p :: m => if k = p.1 then some 0 else (idxM k m).map (· + 1)
theorem idxM_some {k : Int} : ∀ {es : List (Int × DV)} {i : Nat}, idxM k es = some i → ∃ x, es[i]? = some (k, x) ∧ getM k es = some x ∧ ∀ v, putM k v es = es.set i (k, v)
 | p :: m, i, h => by
  unfold idxM at h
  by_cases hk : k = p.1
  ·rw [if_pos hk] at h; cases h
   subst hk
   exact ⟨p.2, rfl, by simp [getM], fun v => by simp [putM]⟩
  ·rw [if_neg hk] at h
   obtain ⟨j, hj, rfl⟩ := Option.map_eq_some_iff.1 h
   obtain ⟨x, h1, h2, h3⟩ := idxM_some hj
   exact ⟨x, by simpa using h1, by simpa [getM, hk] using h2, fun v => by simp [putM, hk, h3]⟩
theorem idxM_none {k : Int} : ∀ {es : List (Int × DV)}, idxM k es = none → getM k es = none ∧ ∀ v, putM k v es = es ++ [(k, v)]
 | [], _ => ⟨rfl, fun _ => rfl⟩
 | p :: m, h => by
  unfold idxM at h
  by_cases hk : k = p.1
  ·rw [if_pos hk] at h; cases h
  ·rw [if_neg hk] at h
   obtain ⟨h1, h2⟩ := idxM_none (es := m) (by simpa using h)
   exact ⟨by simpa [getM, hk] using h1, fun v => by simp [putM, hk, h2]⟩
section
variable {P : Program} {w0 : GW} {w : World} {h : Heap} {k : Nat} {m : Mem} {β : Bl} {nm : Nm}
theorem mapT_of {t : TypeId} (ht : (mapT P t).isSome = true) : ∃ kt, P.underlying t = some (.map kt ((mapT P t).getD 0)) ∧ P.underlying kt = some (.int .i64) := by
 unfold mapT at ht ⊢
 cases hd : P.underlying t with
 | none => simp [hd] at ht
 | some d =>
  cases d <;> simp [hd] at ht ⊢
  rename_i kt e
  cases hk : P.underlying kt with
  | none => simp [hk] at ht
  | some d2 =>
   cases d2 <;> simp [hk] at ht ⊢
   rename_i ik
   cases ik <;> simp at ht ⊢
   exact hk
theorem findNow_idx {j : Int} : ∀ (l : List MapEntry) (es : List (Int × DV)) (i : Nat), l.length = es.length → (∀ (i : Nat) (x : MapEntry) (y : Int × DV), l[i]? = some x → es[i]? = some y → x.key = .int .i64 y.1) →
  Instr.findNow (.int .i64) (.int .i64 j) l i = some (match idxM j es with | none => none | some d => (l[d]?).map fun x => (i + d, x.val))
 | [], [], _, _, _ => rfl
 | [], _ :: _, _, h, _ => by simp at h
 | _ :: _, [], _, h, _ => by simp at h
 | x :: l, y :: es, i, h, H => by
  have h0 := H 0 x y rfl rfl
  have ih := findNow_idx (j := j) l es (i + 1) (by simpa using h) fun q a b ha hb => H (q + 1) a b (by simpa using ha) (by simpa using hb)
  unfold Instr.findNow idxM
  rw [h0]
  simp only [Instr.sameNow, if_true]
  by_cases hk : j = y.1
  ·have : (j == y.1) = true := by simpa using hk
   rw [this, if_pos hk]; simp
  ·have : (j == y.1) = false := by simpa using hk
   rw [this, if_neg hk]
   simp only [ih]
   cases idxM j es with
   | none => rfl
   | some d => simp [Nat.add_assoc, Nat.add_comm 1 d]
theorem run_key {kt : TypeId} (hk : P.underlying kt = some (.int .i64)) (e : Bool) (j : Int) (w : World) : (Instr.checkKey e 10000 kt (.int .i64 j)).run P w = .ok () w := by
 have : ∀ d, (Instr.checkKey e (d + 1) kt (.int .i64 j)).run P w = .ok () w := fun d => by simp [Instr.checkKey, run_underlying hk]
 obtain ⟨d, hd⟩ : ∃ d, 10000 = d + 1 := ⟨9999, rfl⟩
 rw [hd]; exact this d
theorem run_find {kt : TypeId} (hk : P.underlying kt = some (.int .i64)) {j : Int} {l : List MapEntry} {es : List (Int × DV)} (hl : l.length = es.length) (H : ∀ (i : Nat) (x : MapEntry) (y : Int × DV), l[i]? = some x → es[i]? = some y → x.key = .int .i64 y.1) (w : World) :
  (Instr.findKey kt (.int .i64 j) l).run P w = .ok (match idxM j es with | none => none | some d => (l[d]?).map fun x => (d, x.val)) w := by
 have := findNow_idx (j := j) l es 0 hl H
 simp only [Nat.zero_add] at this
 simp [Instr.findKey, run_underlying hk, this]
theorem look_ok {t : TypeId} {va vk : Value} {a j : AV} (H : HRel P w0 h k m β w) (ha : R m β va a) (hj : R m β vk j) (c : Bool) (hok : okLook P t a j h) :
  VRes P w0 h k m β w nm (effLook P t a j c h) (Instr.lookup t va vk c) := by
 obtain ⟨h1, h2, h3, h4, h5⟩ := hok
 obtain ⟨kt, hT, hK⟩ := mapT_of h1
 have ek := hj.i64 h2
 subst ek
 generalize het : (mapT P t).getD 0 = et at *
 obtain ⟨i, z, hi, hz0, hzs, hsi, hone, hzA⟩ := zeroOk_of h3
 have hzr := run_zero hi hz0 w
 have hzt : zeroT P et = some z := by simp [zeroT, hi, hz0]
 have ezd : zeroD P et = constAV z := by unfold zeroD; rw [hzt]
 have hRz : RD m z (zeroD P et).toD := by
  have hR : R m β z (zeroD P et) := by
   rw [ezd]
   have := TRel.ev (m := m) (β := β) (s := ⟨fun _ => .junk, h, k⟩) (a := { tmps := #[], defers := [] }) (n := 0) (fun i v hi => by simp at hi) rfl (.const z) rfl (fun v e c hc => by
    cases e
    obtain ⟨q, hq, rfl⟩ := Array.mem_iff_getElem.1 hc
    exact hone q _ (Array.getElem?_eq_getElem hq))
   exact this
  exact hR.toD (toD_of h4)
 have main : ∀ (l : Array MapEntry) (es : List (Int × DV)), l.size = es.length → (∀ (i : Nat) (x : MapEntry) (y : Int × DV), l[i]? = some x → es[i]? = some y → x.key = .int .i64 y.1 ∧ RD m x.val y.2) → ∀ (sm : Sem (Array MapEntry)), sm.run P w = .ok l w →
   ∃ v, (do
    let es ← sm
    Instr.checkKey es.isEmpty 10000 kt (.int .i64 (intOf' j))
    let (v, ok) ← match ← Instr.findKey kt (.int .i64 (intOf' j)) es.toList with
     | some (_, v) => pure (v, true)
     | none => pure (← zeroValue et, false)
    pure (if c then Value.tuple #[v, .bool ok] else v) : Sem Value).run P w = .ok v w ∧ R m β v (if c then .tup [.d ((getM (intOf' j) es).getD (zeroD P et).toD), .d (.v (.bool (getM (intOf' j) es).isSome))] else .d ((getM (intOf' j) es).getD (zeroD P et).toD)) := by
  intro l es hl hH sm hsm
  have hf := run_find (P := P) hK (j := intOf' j) (l := l.toList) (es := es) (by simpa using hl) (fun q x y hx hy => (hH q x y (by simpa using hx) hy).1) w
  have fin : ∀ (v : Value) (d : DV) (b : Bool), RD m v d → R m β (if c then Value.tuple #[v, .bool b] else v) (if c then .tup [.d d, .d (.v (.bool b))] else .d d) := by
   intro v d b hv
   cases c with
   | false => exact .d hv
   | true =>
    refine .tup rfl fun q x y hx hy => ?_
    match q, hx, hy with
    | 0, hx, hy => simp at hx hy; subst hx; subst hy; exact .d hv
    | 1, hx, hy => simp at hx hy; subst hx; subst hy; exact .d (.v rfl)
    | q + 2, hx, hy => simp at hy
  cases hq : idxM (intOf' j) es with
  | none =>
   obtain ⟨g1, _⟩ := idxM_none hq
   rw [hq] at hf
   refine ⟨if c then .tuple #[z, .bool false] else z, ?_, ?_⟩
   ·simp only [Sem.run_bind, hsm, Result.andThen_ok, run_key hK, hf, Sem.run_pure, hzr]
   ·rw [g1]; exact fin z _ false hRz
  | some d =>
   obtain ⟨x, g1, g2, _⟩ := idxM_some hq
   have hlt : d < l.size := by rw [hl]; exact (List.getElem?_eq_some_iff.1 g1).1
   have hld : l.toList[d]? = some l[d] := by simp [hlt]
   simp only [hq, hld, Option.map_some] at hf
   refine ⟨if c then .tuple #[l[d].val, .bool true] else l[d].val, ?_, ?_⟩
   ·simp only [Sem.run_bind, hsm, Result.andThen_ok, run_key hK, hf, Option.map_some, Sem.run_pure]
   ·rw [g2]; exact fin _ _ true (hH d l[d] _ (Array.getElem?_eq_getElem hlt) g1).2
 cases a with
 | map n =>
  cases ha with
  | @map _ p hb hv =>
   have h5 : isMapO h n := h5
   unfold isMapO at h5
   split at h5
   ·rename_i es hes
    obtain ⟨p', hp', _, l, clock, g1, ⟨g2, gc, gb⟩, g3⟩ := H.obj n _ hes
    rw [hb] at hp'; cases hp'
    have hgo : (getObj p.1).run P w = .ok (.map l clock) w := by simp [getObj, Sem.run, g1]
    obtain ⟨v, e1, e2⟩ := main l es g2 g3 (pure l) rfl
    refine VRes.same H (v := v) ?_ rfl ?_
    ·simp only [Sem.run_bind, Sem.run_pure, Result.andThen_ok] at e1
     simp only [Instr.lookup, Sem.run_bind, run_underlying hT, Result.andThen_ok, hgo, Sem.run_pure]
     exact e1
    ·simp only [effLook, askM, mapEs, hes, het]; exact e2
   ·exact h5.elim
 | d x =>
  have h5 : isNilM (.d x) := h5
  unfold isNilM at h5
  split at h5
  ·rename_i e
   cases e
   cases ha with
   | d hd =>
    cases hd with
    | v _ =>
     obtain ⟨v, e1, e2⟩ := main #[] [] rfl (fun i x y hx => by simp at hx) (pure #[]) rfl
     refine VRes.same H (v := v) ?_ rfl ?_
     ·simp only [Sem.run_bind, Sem.run_pure, Result.andThen_ok] at e1
      simp only [Instr.lookup, Sem.run_bind, run_underlying hT, Result.andThen_ok, Sem.run_pure]
      exact e1
     ·simp only [effLook, askM, het]; exact e2
  ·exact h5.elim
 | _ => exact False.elim h5
theorem makeMap_ok {t : TypeId} (H : HRel P w0 h k m β w) (hbn : β nm = none) (hk : nm.1 < k) : VRes P w0 h k m β w nm ⟨.map nm, [], [(nm, some (.map []))]⟩ (Instr.makeMap t none) := by
 refine ⟨.map (some w.heap.size), w.alloc (.map #[] 0), m, updB β nm ⟨w.heap.size, 0, none⟩, ?_, .rfl' m, updB_le (le_new hbn), fun n hn => updB_none hn, ?_, .map (p := ⟨w.heap.size, 0, none⟩) (updB_self _ _ _) rfl⟩
 ·simp [Instr.makeMap]
 ·refine H.upd1 (le_new hbn) hk (Below.alloc H.ext H.size _) (.rfl' m) (fun b o v hv => ?_) ⟨rfl, #[], 0, heap_alloc_new w _, ⟨rfl, rfl, fun i x hx => by simp at hx⟩, fun i x y hx => by simp at hx⟩ (fun _ => H.size) ?_
  ·obtain ⟨h1, h2⟩ := H.mem b o v hv
   exact ⟨(World.cell?_alloc_lt w _ ⟨b, o, none⟩ (H.mem_lt hv)).trans h1, h2⟩
  ·intro x p' ob' _ hx hp hr
   have := H.lt hx hp hr
   exact ⟨fun _ => Nat.ne_of_lt this, heap_alloc_old w _ this, fun _ => rfl⟩
theorem range_ok {t : TypeId} {va : Value} {a : AV} (H : HRel P w0 h k m β w) (hbn : β nm = none) (hk : nm.1 < k) (ha : R m β va a) (hok : okRange P t a h) : VRes P w0 h k m β w nm (effRange nm a h) (Instr.range t va) := by
 obtain ⟨h1, h5⟩ := hok
 obtain ⟨kt, hT, hK⟩ := mapT_of h1
 cases a with
 | map n =>
  cases ha with
  | @map _ q hb hv =>
   have h5 : isMapO h n := h5
   unfold isMapO at h5
   split at h5
   ·rename_i es hes
    obtain ⟨p', hp', _, l, clock, g1, ⟨g2, gc, gb⟩, g3⟩ := H.obj n _ hes
    rw [hb] at hp'; cases hp'
    have hne : n ≠ nm := fun e => by subst e; rw [hb] at hbn; cases hbn
    have hmE : mapEs h n = es := by simp [mapEs, hes]
    refine ⟨.pointer (some ⟨w.heap.size, 0, none⟩), w.alloc (.mapIter (some q.1) clock #[] clock), m, updB β nm ⟨w.heap.size, 0, none⟩, ?_, .rfl' m, updB_le (le_new hbn), fun n hn => updB_none hn, ?_, .ptr (p := ⟨w.heap.size, 0, none⟩) (updB_self _ _ _) rfl⟩
    ·exact run_range_map w t kt _ q.1 l clock hT g1
    ·show HRel P w0 (upd h nm (some (.iter n (mapEs h n).length []))) k m _ _
     rw [hmE]
     refine H.upd1 (le_new hbn) hk (Below.alloc H.ext H.size _) (.rfl' m) (fun b o v hv => ?_) ⟨rfl, q, #[], (updB_ne _ _ hne).trans hb, hv, ?_, rfl⟩ (fun _ => H.size) ?_
     ·obtain ⟨h1, h2⟩ := H.mem b o v hv
      exact ⟨(World.cell?_alloc_lt w _ ⟨b, o, none⟩ (H.mem_lt hv)).trans h1, h2⟩
     ·rw [← gc]; exact heap_alloc_new w _
     ·intro x p' ob' _ hx hp hr
      have := H.lt hx hp hr
      exact ⟨fun _ => Nat.ne_of_lt this, heap_alloc_old w _ this, fun _ => rfl⟩
   ·exact h5.elim
 | _ => exact h5.elim
theorem entry_ok {va : Value} {a : AV} (H : HRel P w0 h k m β w) (ha : R m β va a) (hok : okEntry a h) : VRes P w0 h k m β w nm (effEntry a h) (Instr.entry va) := by
 cases a with
 | ptr n off =>
  cases off with
  | succ _ => exact False.elim hok
  | zero =>
   cases ha with
   | @ptr _ _ p hb hv =>
    cases hn : h n with
    | none => simp [okEntry, hn] at hok
    | some ob =>
     cases ob with
     | iter src sz seen =>
      simp only [okEntry, hn] at hok
      obtain ⟨h1, h2, i, h3, h4⟩ := hok
      unfold isMapO at h1
      split at h1
      ·rename_i es hes
       obtain ⟨p', hp', _, q, sn, f1, f2, f3, f4⟩ := H.obj n _ hn
       rw [hb] at hp'; cases hp'
       obtain ⟨q', hq', _, l, clock, g1, ⟨g2, gc, gb⟩, g3⟩ := H.obj src _ hes
       rw [f1] at hq'; cases hq'
       have hmE : mapEs h src = es := by simp [mapEs, hes]
       rw [hmE] at h2
       have hil : i < l.size := by rw [g2, h2]; exact h4
       have hie : i < es.length := by omega
       have hg : (getObj p.1).run P w = .ok (.mapIter (some q.1) sz sn sz) w := by simp [getObj, Sem.run, f3]
       have hg' : (getObj q.1).run P w = .ok (.map l clock) w := by simp [getObj, Sem.run, g1]
       have hbk : sn.back? = some i := by
        rw [← f4] at h3
        simpa using h3
       have hfi : l.find? (fun e => e.born == i) = some l[i] := by
        rw [Array.find?_eq_some_iff_getElem]
        refine ⟨by simpa using gb i l[i] (Array.getElem?_eq_getElem hil), i, hil, rfl, fun j hj => ?_⟩
        have := gb j l[j] (Array.getElem?_eq_getElem (by omega))
        simp [this]; omega
       have hx := g3 i l[i] es[i] (Array.getElem?_eq_getElem hil) (List.getElem?_eq_getElem hie)
       refine VRes.same H (v := .tuple #[l[i].key, l[i].val]) ?_ ?_ ?_
       ·have hcl : clock = sz := by rw [gc, h2]
        simp [Instr.entry, hg, hg', hbk, hfi, hcl]
       ·simp [effEntry, hn]
       ·simp only [effEntry, hn, hmE, h3, Option.getD_some]
        rw [List.getD_eq_getElem?_getD, List.getElem?_eq_getElem hie, Option.getD_some]
        refine .tup rfl fun j v a hj ha => ?_
        match j, hj, ha with
        | 0, hj, ha => simp at hj ha; subst hj; subst ha; rw [hx.1]; exact .d (.v rfl)
        | 1, hj, ha => simp at hj ha; subst hj; subst ha; exact .d hx.2
        | j + 2, hj, ha => simp at hj
      ·exact h1.elim
     | _ => simp [okEntry, hn] at hok
 | _ => exact False.elim hok
theorem put_ok {t : TypeId} {va vk vx : Value} {a j x : AV} (H : HRel P w0 h k m β w) (ha : R m β va a) (hj : R m β vk j) (hx : R m β vx x) (hok : okPut P t a j x h) :
  URes P w0 h k m β w (effPut a j x h) (Instr.mapUpdate t va vk vx) := by
 obtain ⟨h1, h2, h3, h5⟩ := hok
 obtain ⟨kt, hT, hK⟩ := mapT_of h1
 have ek := hj.i64 h2
 subst ek
 have hd := hx.toD (toD_of h3)
 cases a with
 | map n =>
  cases ha with
  | @map _ p hb hv =>
   have h5 : isMapO h n := h5
   unfold isMapO at h5
   split at h5
   ·rename_i es hes
    obtain ⟨p', hp', _, l, clock, g1, ⟨g2, gc, gb⟩, g3⟩ := H.obj n _ hes
    rw [hb] at hp'; cases hp'
    have hlt : p.1 < w.heap.size := (Array.getElem?_eq_some_iff.1 g1).1
    have hgo : (getObj p.1).run P w = .ok (.map l clock) w := by simp [getObj, Sem.run, g1]
    have hf := run_find (P := P) hK (j := intOf' j) (l := l.toList) (es := es) (by simpa using g2) (fun q x y hx hy => (g3 q x y (by simpa using hx) hy).1) w
    have hat : ∀ o, ({ w with heap := w.heap.setIfInBounds p.1 o } : World).heap[p.1]? = some o := fun o => by simp [hlt]
    have hother : ∀ o b, b ≠ p.1 → ({ w with heap := w.heap.setIfInBounds p.1 o } : World).heap[b]? = w.heap[b]? := fun o b hne => by simp [Ne.symm hne]
    have eβ : updB β n p = β := by
     funext y; unfold updB; split
     ·subst_vars; exact hb.symm
     ·rfl
    have fin : ∀ (l' : Array MapEntry) (clock' : Nat), (l'.size = (putM (intOf' j) x.toD es).length ∧ clock' = (putM (intOf' j) x.toD es).length ∧ ∀ (i : Nat) (x : MapEntry), l'[i]? = some x → x.born = i) → (∀ (i : Nat) (e : MapEntry) (y : Int × DV), l'[i]? = some e → (putM (intOf' j) x.toD es)[i]? = some y → e.key = .int .i64 y.1 ∧ RD m e.val y.2) →
      (Instr.mapUpdate t (.map (some p.1)) (.int .i64 (intOf' j)) vx).run P w = .ok () { w with heap := w.heap.setIfInBounds p.1 (.map l' clock') } → URes P w0 h k m β w (effPut (.map n) j x h) (Instr.mapUpdate t (.map (some p.1)) (.int .i64 (intOf' j)) vx) := by
     intro l' clock' hs hl' hrun
     refine ⟨_, m, β, hrun, .rfl' m, .rfl' β, fun _ hn => hn, ?_, rfl⟩
     simp only [effPut, Eff.ap, List.foldl_cons, List.foldl_nil, mapEs, hes]
     have hB : w0.heap.size ≤ p.1 := H.new n p _ hb hes trivial
     have := H.upd1 (n := n) (p := p) (ob := .map (putM (intOf' j) x.toD es)) (m' := m) (w' := { w with heap := w.heap.setIfInBounds p.1 (.map l' clock') }) (le_old hb) (H.dom n p hb) (H.ext.trans ⟨rfl, rfl, rfl, by simp, fun b hbb => hother _ b (by omega)⟩) (.rfl' m) (fun b o v hmv => ?_) ?_ (fun _ => hB) ?_
     ·rwa [eβ] at this
     ·obtain ⟨q1, q2⟩ := H.mem b o v hmv
      refine ⟨?_, q2⟩
      have hne : b ≠ p.1 := fun e => by
       subst e
       unfold World.cell? at q1
       simp [g1] at q1
      unfold World.cell? at q1 ⊢
      rw [hother _ b hne]; exact q1
     ·rw [eβ]; exact ⟨hv, l', clock', hat _, hs, hl'⟩
     ·intro y p' ob' hy hob hp' hr
      have hne : p'.1 ≠ p.1 := fun e => hy (H.inj y n p' p ob' _ hob hes hp' hb hr trivial e)
      exact ⟨fun _ => hne, hother _ _ hne, fun _ => rfl⟩
    cases hq : idxM (intOf' j) es with
    | none =>
     obtain ⟨_, q2⟩ := idxM_none hq
     rw [hq] at hf
     refine fin (l.push { key := .int .i64 (intOf' j), val := vx, born := clock }) (clock + 1) ⟨by simp [q2, g2], by simp [q2, gc], fun i e he => by
      rw [Array.getElem?_push] at he
      by_cases hi : i = l.size
      ·subst hi; simp at he; subst he; simp only [gc, g2]
      ·rw [if_neg hi] at he; exact gb i e he⟩ (fun i e y he hy => ?_) ?_
     ·rw [q2] at hy
      rw [Array.getElem?_push] at he
      by_cases hi : i = l.size
      ·subst hi
       simp at he
       subst he
       rw [g2, List.getElem?_append_right (Nat.le_refl _)] at hy
       simp at hy
       subst hy
       exact ⟨rfl, hd⟩
      ·rw [if_neg hi] at he
       have hlt2 : i < l.size := (Array.getElem?_eq_some_iff.1 he).1
       rw [List.getElem?_append_left (by omega)] at hy
       exact g3 i e y he hy
     ·simp [Instr.mapUpdate, run_underlying hT, hgo, run_key hK, hf, MapKept.run_setObj_map _ g1]
    | some d =>
     obtain ⟨u, q1, _, q2⟩ := idxM_some hq
     have hdl : d < l.size := by rw [g2]; exact (List.getElem?_eq_some_iff.1 q1).1
     have hld : l.toList[d]? = some l[d] := by simp [hdl]
     simp only [hq, hld, Option.map_some] at hf
     have hkey : ((l[d]?).map (·.key)).getD (.int .i64 (intOf' j)) = .int .i64 (intOf' j) := by
      rw [Array.getElem?_eq_getElem hdl]
      exact (g3 d l[d] _ (Array.getElem?_eq_getElem hdl) q1).1
     have hbits : Instr.sameBits 10000 (.int .i64 (intOf' j)) (.int .i64 (intOf' j)) = true := by
      have : ∀ d, Instr.sameBits d (.int .i64 (intOf' j)) (.int .i64 (intOf' j)) = true := fun d => by cases d <;> simp [Instr.sameBits]
      exact this _
     have hst : (Instr.keyThatStays (.int .i64 (intOf' j)) (.int .i64 (intOf' j))).run P w = .ok (.int .i64 (intOf' j)) w := by
      simp only [Instr.keyThatStays]
      rw [if_pos hbits]
      simp
     refine fin (l.modify d fun e => { e with key := .int .i64 (intOf' j), val := vx }) clock ⟨by simp [q2, g2], by simp [q2, gc], fun i e he => by
      rw [Array.getElem?_modify] at he
      by_cases hi : d = i
      ·subst hi
       rw [if_pos rfl, Array.getElem?_eq_getElem hdl] at he
       simp at he; subst he
       exact gb d l[d] (Array.getElem?_eq_getElem hdl)
      ·rw [if_neg hi] at he; exact gb i e he⟩ (fun i e y he hy => ?_) ?_
     ·rw [q2, List.getElem?_set] at hy
      rw [Array.getElem?_modify] at he
      by_cases hi : d = i
      ·subst hi
       rw [if_pos rfl] at he hy
       rw [Array.getElem?_eq_getElem hdl] at he
       simp at he
       subst he
       rw [if_pos (by omega)] at hy
       cases hy
       exact ⟨rfl, hd⟩
      ·rw [if_neg hi] at he hy
       exact g3 i e y he hy
     ·simp only [Instr.mapUpdate, Sem.run_bind, run_underlying hT, hgo, run_key hK, hf, Result.andThen_ok, hkey, hst, MapKept.run_setObj_map _ g1]
   ·exact h5.elim
 | _ => exact h5.elim
end
end Go.Proofs.YtmeekpinkfpnhabDoor

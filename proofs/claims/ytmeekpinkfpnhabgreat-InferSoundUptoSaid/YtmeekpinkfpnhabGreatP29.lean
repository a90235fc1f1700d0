/- Walks of package order: the maps of pairs, and the functions that ask them. -/
import Derived.Test.YtmeekpinkfpnhabGreatP07
import Derived.Test.YtmeekpinkfpnhabGreatP14
import Derived.Test.YtmeekpinkfpnhabGreatP24
import Derived.Test.YtmeekpinkfpnhabGreatP28
import Derived.Shelf.RegionOpenPlain
import Derived.Deep.RegionLaw
import Derived.MapKept
import Derived.StillTail
set_option linter.all false
namespace Go.Proofs.YtmeekpinkfpnhabGreat
open Go.RowKit
theorem step_app_ran {P : Program} {ops : Array Oper} {o : Oper} {a : Act} {w w' : World} {K : Act → World → Prop} {Q : Exit → Act → World → Prop} {E : Prop} (hg : o.guard = none) (s x : Operand) (t : TypeId)
  (hop : o.op = Op.call { callee := Callee.builtin Builtin.append, args := #[s, x], argTypes := #[t, t] }) {vs vx v : Value} (hs : a.eval s = vs) (hx : a.eval x = vx) (hrun : (Builtin.append_ #[t, t] o.type #[vs, vx]).run P w = .ok v w') (hK : K (a.put o.dst v) w') :
  if Region.wanted o (yielded ops a.tmps) = true then Oper.wp P o a w K Q else E := by
 have hw : Region.wanted o (yielded ops a.tmps) = true := by simp [Region.wanted, hg]
 rw [if_pos hw]
 unfold Oper.wp
 simp [execOp, hop, resolve, invoke, builtin, hs, hx, hrun, Result.andThen]
 exact hK
def wrC (C : Array Value) (o : Nat) (vs : List Value) : Array Value := (C.toList.take o ++ vs ++ C.toList.drop (o + vs.length)).toArray
theorem wrC_size {C : Array Value} {o : Nat} {vs : List Value} (h : o + vs.length ≤ C.size) : (wrC C o vs).size = C.size := by
 unfold wrC; simp; omega
theorem wrC_lo {C : Array Value} {o : Nat} {vs : List Value} (h : o + vs.length ≤ C.size) {q : Nat} (hq : q < o) : (wrC C o vs)[q]? = C[q]? := by
 unfold wrC
 simp only [List.getElem?_toArray]
 rw [List.append_assoc, List.getElem?_append_left (by simp; omega), List.getElem?_take, if_pos hq, Array.getElem?_toList]
theorem wrC_in {C : Array Value} {o : Nat} {vs : List Value} (h : o + vs.length ≤ C.size) {q : Nat} (hq : q < vs.length) : (wrC C o vs)[o + q]? = vs[q]? := by
 unfold wrC
 simp only [List.getElem?_toArray]
 rw [List.append_assoc, List.getElem?_append_right (by simp; omega), List.getElem?_append_left (by simp; omega)]
 congr 1; simp; omega
theorem run_load_row {P : Program} {w : World} {b o k : Nat} {C : Array Value} {e : TypeId} (hb : w.heap[b]? = some (.cells C e (0, 0))) (h : o + k ≤ C.size) : (loadCells ⟨b, o, none⟩ k).run P w = .ok ((C.toList.drop o).take k).toArray w := by
 have hl : ((C.toList.drop o).take k).length = k := by simp; omega
 have := run_loadCells_list (P := P) w ⟨b, o, none⟩ ((C.toList.drop o).take k) fun j v hv => by
  rw [List.getElem?_take] at hv
  split at hv
  ·rw [List.getElem?_drop, Array.getElem?_toList] at hv
   rw [add_none']
   simpa [World.cell?, hb] using hv
  ·cases hv
 rw [hl] at this
 exact this
theorem zero_one {z : Array Value} {n : Nat} (h : ∀ (j : Nat) (c : Value), z[j]? = some c → c.oneCell' = true) (h0 : 0 < z.size) : ∀ v ∈ (Builtin.zeroCells z n).toList, v.oneCell' = true := fun v hv => by
 unfold Builtin.zeroCells at hv
 simp only [Array.toList_map, List.mem_map, Array.mem_toList_iff, Array.mem_range] at hv
 obtain ⟨a, _, rfl⟩ := hv
 have := Nat.mod_lt a h0
 rw [getElem!_pos z _ this]
 exact h _ _ (Array.getElem?_eq_getElem this)
theorem run_clear_row {P : Program} {w : World} {t e ty : TypeId} {b o n c : Nat} {C : Array Value} {z : Value} (ht : P.underlying t = some (.slice e)) (hz : ∀ w, (zeroValue e).run P w = .ok z w) (hn : 0 < n) (hb : w.heap[b]? = some (.cells C e (0, 0)))
  (hfit : o + (Builtin.zeroCells z.cells n).toList.length ≤ C.size) (h1 : ∀ v ∈ (Builtin.zeroCells z.cells n).toList, v.oneCell' = true) : (Builtin.clear_ #[t] ty #[.slice (some ⟨b, o, none⟩) n c]).run P w = .ok (.tuple #[]) (w.setRow b (wrC C o (Builtin.zeroCells z.cells n).toList)) := by
 have hst := run_storeCells_at P b o e (Builtin.zeroCells z.cells n).toList 0 C w hb (by simpa using hfit) h1
 rw [Nat.add_zero] at hst
 obtain ⟨m, rfl⟩ : ∃ m, n = m + 1 := ⟨n - 1, by omega⟩
 simp [Builtin.clear_, run_underlying ht, hz, hst]
 unfold wrC; simp
set_option maxHeartbeats 4000000 in
set_option maxRecDepth 1000000 in
theorem del_raw (b n cap i j : Nat) (hj : j = i + 1) (hi : i < n) (hcap : n ≤ cap) (hm : cap ≤ 9223372036854775807) (C : Array Value) (w : World) (hb : w.heap[b]? = some (.cells C 66 (0, 0))) (hC : C.size = cap * 7)
  (h1 : ∀ q v, q < n * 7 → C[q]? = some v → v.oneCell' = true) :
  Calls Tryz.prog 123 #[.slice (some ⟨b, 0, none⟩) n cap, .int .i64 i, .int .i64 j] w fun e w' => e = .returned (.slice (some ⟨b, 0, none⟩) (i + (n - j)) cap) ∧ ∃ C2, w' = w.drew.setRow b C2 ∧ C2.size = C.size ∧ ∀ q, q < (n - 1) * 7 → C2[q]? = C[if q < i * 7 then q else q + 7]? := by
 have hlt : i < j := by omega
 have hjn : j ≤ n := by omega
 have hic : i ≤ cap := by omega
 have hjc : j ≤ cap := by omega
 have hne : ¬ i = j := by omega
 have eT : elT Tryz.prog 35 = 66 := by kernel_rfl
 have eS : szT Tryz.prog 66 = 7 := by kernel_rfl
 obtain ⟨ti, z, hti, hz0, hzs, hsi, hzo, _⟩ := zeroOk_of (P := Tryz.prog) (t := 66) (by kernel_rfl)
 rw [eS] at hzs
 have hI : (Tryz.prog.info? (elT Tryz.prog 35)).isSome = true := by rw [eT, hti]; rfl
 have hS : slT Tryz.prog 35 = true := by kernel_rfl
 have hb' : w.drew.heap[b]? = some (.cells C 66 (0, 0)) := hb
 obtain ⟨news, hnews⟩ : ∃ news, news = (C.toList.drop (j * 7)).take ((n - j) * 7) := ⟨_, rfl⟩
 have hlen : news.length = (n - j) * 7 := by rw [hnews]; simp; omega
 have hget : ∀ q, q < (n - j) * 7 → news[q]? = C[j * 7 + q]? := fun q hq => by rw [hnews, List.getElem?_take, if_pos hq, List.getElem?_drop, Array.getElem?_toList]
 have hone : ∀ v ∈ news, v.oneCell' = true := fun v hv => by
  obtain ⟨q, hq, e⟩ := List.getElem_of_mem hv
  have := hget q (by omega)
  rw [List.getElem?_eq_getElem hq, e] at this
  exact h1 (j * 7 + q) v (by omega) this.symm
 obtain ⟨A, hA, hsrc⟩ : ∃ A : Addr, (if cap = j then some (⟨b, 0, none⟩ : Addr) else some ⟨b, j * 7, none⟩) = some A ∧ (Builtin.firstCells (szT Tryz.prog (elT Tryz.prog 35)) (n - j) (.slice (some A) (n - j) (cap - j))).run Tryz.prog w.drew = .ok news.toArray w.drew := by
  rw [eT, eS]
  by_cases h : cap = j
  ·refine ⟨⟨b, 0, none⟩, by simp [h], ?_⟩
   have e0 : n - j = 0 := by omega
   have : news = [] := List.eq_nil_of_length_eq_zero (by omega)
   rw [e0, this]
   simp [Builtin.firstCells, loadCells, loadCellsFrom]
  ·refine ⟨⟨b, j * 7, none⟩, by simp [h], ?_⟩
   have := run_load_row (P := Tryz.prog) (k := (n - j) * 7) (o := j * 7) hb' (by omega)
   rw [← hnews] at this
   simpa [Builtin.firstCells] using this
 have hfit1 : i * 7 + news.length ≤ C.size := by omega
 have hap := fun ty => run_app_room (P := Tryz.prog) (w := w.drew) (t := 35) (base := some ⟨b, 0, none⟩) (sLen := i) (sCap := cap) (n := n - j) (vx := .slice (some A) (n - j) (cap - j)) (news := news) hS hI (by simp [Builtin.lenOf]) hsrc (by omega) ty (w.drew.setRow b (wrC C (i * 7) news))
  (fun a e => by cases e; have hst := run_storeCells_at Tryz.prog b (i * 7) 66 news 0 C w.drew hb' (by omega) hone; rw [Nat.add_zero] at hst; rw [add_none', Nat.zero_add, eT, eS]; exact hst) (fun e => by cases e)
 have hC1 := wrC_size hfit1
 have lo1 := fun q => wrC_lo (q := q) hfit1
 have in1 := fun q => wrC_in (q := q) hfit1
 generalize wrC C (i * 7) news = C1 at hap hC1 lo1 in1
 have hb1 : (w.drew.setRow b C1).heap[b]? = some (.cells C1 66 (0, 0)) := setRow_heap w.drew b C C1 _ _ hb'
 have hzl : (Builtin.zeroCells z.cells (n - (i + (n - j)))).toList.length = 7 := by rw [Array.length_toList, size_zeroCells, hzs, show n - (i + (n - j)) = 1 by omega]
 have hfit2 : (i + (n - j)) * 7 + (Builtin.zeroCells z.cells (n - (i + (n - j)))).toList.length ≤ C1.size := by rw [hzl]; omega
 have hcl := fun ty => run_clear_row (P := Tryz.prog) (ty := ty) (c := cap - (i + (n - j))) Tryz.underlying35 (fun w => run_zero hti hz0 w) (show 0 < n - (i + (n - j)) by omega) hb1 hfit2 (fun v hv => zero_one hzo (by rw [hzs]; decide) v hv)
 rw [setRow_setRow] at hcl
 have hC2 := wrC_size hfit2
 have lo2 := fun q => wrC_lo (q := q) hfit2
 generalize wrC C1 ((i + (n - j)) * 7) (Builtin.zeroCells z.cells (n - (i + (n - j)))).toList = C2 at hcl hC2 lo2
 have hfin : C2.size = C.size ∧ ∀ q, q < (n - 1) * 7 → C2[q]? = C[if q < i * 7 then q else q + 7]? := by
  refine ⟨by omega, fun q hq => ?_⟩
  rw [lo2 q (by omega)]
  split
  ·rename_i h; exact lo1 q h
  ·rename_i h
   have := in1 (q - i * 7) (by omega)
   rw [show i * 7 + (q - i * 7) = q by omega] at this
   rw [this, hget _ (by omega)]
   congr 1; omega
 clear lo1 lo2 in1 hget hone hnews hlen hsrc hzl hC1 hC2 hb1 hb' hfit1 hfit2 h1 hC hj
 go_enter Tryz.func123, Tryz.ntmps123
 go_wp2_with fail
 go_region_law_o (refine step_app_ran rfl (.tmp 22) (.tmp 25) 35 rfl (by simp [Act.eval, Act.put]) (by simp [Act.eval, Act.put]) (hap _) ?_)
 go_wp2
 go_ret
 exact ⟨rfl, C2, rfl, hfin⟩
set_option maxHeartbeats 1000000 in
set_option maxRecDepth 20000 in
theorem del_tri (l : List Lt) {i : Nat} (hi : i < l.length) (n n2 : Nm) : Tri Tryz.prog 123 [.gro n l.length, iA i, iA ((i : Int) + 1)]
  ⟨.own n2 ((l.eraseIdx i).map ltDV), [(n, some (.gro 66 l.length (flatC (l.map ltDV)))), (n2, none)], [(n, none), (n2, some (.perm 66 (l.length - 1)))]⟩ := by
 intro w0 h k m β w cargs H hrd hwr hcs hargs
 have hob : h n = some (.gro 66 l.length (flatC (l.map ltDV))) := hrd (n, some _) (List.mem_cons_self ..)
 have hno : h n2 = none := hrd (n2, none) (by simp)
 obtain ⟨hk2, hn0⟩ := hwr (n2, some (.perm 66 (l.length - 1))) (by simp)
 have hbn : β n2 = none := hn0 hno
 have hk2 : n2.1 < k := hk2
 obtain ⟨v0, v1, v2, rfl⟩ : ∃ v0 v1 v2, cargs = #[v0, v1, v2] := by
  obtain ⟨l⟩ := cargs
  match l, hcs with
  | [a, b, c], _ => exact ⟨a, b, c, rfl⟩
 have h0 := hargs 0 v0 (.gro n l.length) (by simp) (by simp)
 have g1 := (hargs 1 v1 (iA i) (by simp) (by simp)).dat2
 have g2 := (hargs 2 v2 (iA ((i : Int) + 1)) (by simp) (by simp)).dat2
 clear hargs hrd hwr hcs
 obtain rfl : v1 = .int .i64 i := by cases g1; rfl
 obtain rfl : v2 = .int .i64 ((i : Int) + 1) := by cases g2; rfl
 obtain ⟨p, hb, hver, hob'⟩ := H.obj n _ hob
 have hreal : ¬ (l.length = 0 ∧ p.2 = 0) := fun e => by omega
 have hB : w0.heap.size ≤ p.1 := H.new n p _ hb hob hreal
 rcases hob' with hob' | ⟨C, c1, c2, c3, c4, c5, c6, c7⟩
 ·exact absurd ⟨hob'.1, hob'.2.1⟩ hreal
 obtain rfl : v0 = .slice (some ⟨p.1, 0, none⟩) l.length p.2 := by
  generalize hA : AV.gro n l.length = A at h0
  cases h0 with
  | gro q1 q2 q3 q4 q5 =>
   cases hA
   rw [hb] at q2; cases q2
   rw [hver] at q3; cases q3
   obtain ⟨a, rfl, q6⟩ := q5 rfl
   rw [q6.resolve_left hreal]
  | _ => cases hA
 have eS : szT Tryz.prog 66 = 7 := by kernel_rfl
 rw [eS] at c2 c5
 have hszs : ∀ y ∈ l.map ltDV, y.cells.length = 7 := map_sz (by intro a; simp only [go_sem])
 have at1 : ∀ q v, q < l.length * 7 → C[q]? = some v → v.oneCell' = true := fun q v hq hv => by
  have ha : q < (flatC (l.map ltDV)).length := by omega
  exact (c6 q v _ hv (List.getElem?_eq_getElem ha)).1
 refine (del_raw p.1 l.length p.2 i (i + 1) rfl hi c3 c4 C w c1 c2 at1).mono ?_
 rintro e w' ⟨rfl, C2, rfl, hC2, hCx⟩
 obtain ⟨f, hf⟩ : ∃ f : Nat → Option Value, ∀ o, f o = if o < (l.length - 1) * 7 then C2[o]? else none := ⟨_, fun _ => rfl⟩
 have hle := Mem.add_le m p.1 f
 have hnew : ∀ o, m.add p.1 f p.1 o = f o := fun o => Mem.add_new _ _ (c7 o)
 have hlen' : (l.eraseIdx i).length = l.length - 1 := by rw [List.length_eraseIdx, if_pos hi]
 rw [show i + (l.length - (i + 1)) = l.length - 1 by omega]
 have H1 := (H.del n).upd1 (n := n2) (p := ⟨p.1, p.2, some (l.length - 1)⟩) (ob := .perm 66 (l.length - 1)) (m' := m.add p.1 f) (w' := w.drew.setRow p.1 C2) (le_new hbn) hk2
  (H.ext.trans ⟨rfl, rfl, rfl, by simp [World.setRow], fun q hq => setRow_other w.drew p.1 q C2 (by omega)⟩) hle (fun b o v hv => ?_)
  ⟨rfl, .inr ⟨C2, setRow_heap w.drew p.1 C C2 _ _ c1, by rw [eS]; exact hC2.trans c2, Nat.le_trans (Nat.sub_le ..) c3, fun o ho => by rw [eS] at ho; rw [hnew, hf, if_neg (by omega)]⟩⟩ (fun _ => hB) (fun x p' ob' hx hox hpx hr => ?_)
 ·refine ⟨_, m.add p.1 f, updB β n2 ⟨p.1, p.2, some (l.length - 1)⟩, rfl, hle, updB_le (le_new hbn), fun x hx h0 => updB_none (fun e => hx (n2, some (.perm 66 (l.length - 1))) (by simp) e.symm) h0, H1, .own (p := ⟨p.1, p.2, some (l.length - 1)⟩) (v := l.length - 1) ?_ (updB_self _ _ _) rfl (by rw [List.length_map, hlen']; exact Nat.le_refl _) fun _ => ⟨some ⟨p.1, 0, none⟩, by rw [List.length_map, hlen'], .inr rfl⟩⟩
  have cell : ∀ (r j : Nat) (x d : DV), ((l.eraseIdx i).map ltDV)[r]? = some x → x.cells[j]? = some d → ∃ cv, m.add p.1 f p.1 (0 + r * 7 + j) = some cv ∧ RD (m.add p.1 f) cv d := by
   intro r j x d hx hd
   have hr : r < l.length - 1 := by have := (List.getElem?_eq_some_iff.1 hx).1; rw [List.length_map, hlen'] at this; exact this
   have hxl : x.cells.length = 7 := by
    rw [List.getElem?_map] at hx
    obtain ⟨y, hy, rfl⟩ := Option.map_eq_some_iff.1 hx
    exact hszs _ (List.mem_map.2 ⟨y, List.mem_of_mem_eraseIdx (List.mem_of_getElem? hy), rfl⟩)
   have hj : j < 7 := by rw [← hxl]; exact (List.getElem?_eq_some_iff.1 hd).1
   obtain ⟨r', hr', hx', hq⟩ : ∃ r', r' < l.length ∧ (l.map ltDV)[r']? = some x ∧ (if r * 7 + j < i * 7 then r * 7 + j else r * 7 + j + 7) = r' * 7 + j := by
    rw [List.getElem?_map, List.getElem?_eraseIdx] at hx
    by_cases hri : r < i
    ·rw [if_pos hri] at hx
     exact ⟨r, by omega, by rw [List.getElem?_map]; exact hx, by rw [if_pos (by omega)]⟩
    ·rw [if_neg hri] at hx
     exact ⟨r + 1, by omega, by rw [List.getElem?_map]; exact hx, by rw [if_neg (by omega)]; omega⟩
   have h4 := flatC_at hszs hx' hd
   have hlt : r' * 7 + j < C.size := by omega
   have h5 := Array.getElem?_eq_getElem hlt
   have h6 := c6 _ _ _ h5 h4
   refine ⟨C[r' * 7 + j], ?_, h6.2.dat2.mono hle⟩
   rw [Nat.zero_add, hnew, hf, if_pos (by omega), hCx _ (by omega), hq]
   exact h5
  have hcl : l.length - 1 ≤ p.cap := by have : l.length ≤ p.cap := c3; omega
  refine .sl (sz := 7) (by rw [List.length_map, hlen']) hcl c4 (fun x hx => ?_) (fun r j x d hx hd => let ⟨cv, q1, _⟩ := cell r j x d hx hd; ⟨cv, q1⟩) fun r j x d cv hx hd hcv => by
   obtain ⟨cv', q1, q2⟩ := cell r j x d hx hd
   rw [hcv] at q1; cases q1; exact q2
  obtain ⟨y, hy, rfl⟩ := List.mem_map.1 hx
  exact hszs _ (List.mem_map.2 ⟨y, List.mem_of_mem_eraseIdx hy, rfl⟩)
 ·by_cases hbp : b = p.1
  ·subst hbp
   rw [hnew, hf] at hv
   split at hv
   ·rename_i hlt
    refine ⟨(cell_setRow_same w.drew p.1 o C C2 _ _ c1).trans hv, ?_⟩
    rw [hCx o hlt] at hv
    exact at1 _ v (by split <;> omega) hv
   ·cases hv
  ·rw [Mem.add_ne _ _ hbp] at hv
   obtain ⟨h2, h3⟩ := H.mem b o v hv
   exact ⟨(cell_setRow_other w.drew p.1 C2 ⟨b, o, none⟩ hbp).trans h2, h3⟩
 ·have hxn : x ≠ n := fun e => by subst e; simp [upd] at hox
  rw [upd_ne _ _ hxn] at hox
  have hne : p'.1 ≠ p.1 := fun e => hxn (H.inj x n p' p ob' _ hox hob hpx hb hr hreal e)
  exact ⟨fun _ => hne, setRow_other w.drew p.1 p'.1 C2 hne, fun o => Mem.add_ne _ _ hne o⟩
theorem CallK.clG {P : Program} {ops : Array Oper} {rest : List Oper} {s : St} {K : St → Prop} {tick i : Nat} {dst : Option Tmp} {g : FuncId} {args : Array Operand} {ats : Array TypeId} {ty : TypeId} {pos : String} {after : Array Edge} {guard : Option (Nat × Bool)} {az : List AV} {e : TypeId} {len : Nat} {cs : List AV} (hi : i % 1000 = i) (hent : enterOk P g) (ht : ∀ n', Tri P g az (groE e n' len cs))
  (hco : coL (args.toList.map s.ev) az) (hrd : s.h (tick, i) = none) (hk : runL P ops tick rest (i + 1) (s.step ⟨dst, .call ⟨.value (.func g), args, ats⟩, ty, pos, after, guard⟩ (groE e (tick, i) len cs)) K) : CallK P ops tick i ⟨dst, .call ⟨.value (.func g), args, ats⟩, ty, pos, after, guard⟩ rest s K :=
 CallK.eff hent (ht (tick, i)) hco (fun x hx => by simp only [groE, List.mem_cons, List.not_mem_nil, or_false] at hx; subst hx; exact hrd) (fun x hx => by simp only [groE, List.mem_cons, List.not_mem_nil, or_false] at hx; subst hx; exact .inr ⟨rfl, hi⟩) hk
set_option maxHeartbeats 1000000 in
set_option maxRecDepth 20000 in
theorem without_new (c : List Lt) {i : Nat} (hi : i < c.length) (hl : c.length ≤ 4000000) (n' : Nm) : Tri Tryz.prog 97 [.d (clDV c), iA i] (newEff 66 n' ((c.eraseIdx i).map ltDV)) := by
 refine aE Tryz.func97 rfl Tryz.ntmps97 fun w0 h0 k hrd hwr => ?_
 have hn' : n'.1 < k := hwr _ (List.mem_cons_self ..)
 have h0' : h0 n' = none := hrd _ (List.mem_cons_self ..)
 have hC := cloneG_lits c hl (by omega) (k + 1, 1)
 have hD := del_tri c hi (k + 1, 1) (k + 1, 5)
 refine awp_new fun hnew => ?_
 have hnn : NoNew h0 k := hnew
 have hnn := hnn.at
 repeat' (first | (refine CallK.eff (enter123) hD ?_ ?_ ?_ ?_; (focus exact ⟨.inl rfl, .inl rfl, .inl rfl, trivial⟩); (focus (intro x hx; simp only [List.mem_cons, List.not_mem_nil, or_false] at hx; rcases hx with rfl | rfl <;> (simp only [go_sem, hnn]; done))); (focus (intro x hx; simp only [List.mem_cons, List.not_mem_nil, or_false] at hx; rcases hx with rfl | rfl; (focus (left; simp only [go_sem, hnn]; done)); exact .inr ⟨rfl, rfl⟩)); simp only [go_sem, hnn]) | refine aQ fun K hK => ?_ | ((first | refine aK fun R hR => ?_ | refine aD mixed fun R hR => ?_); simp only [go_sem, hnn]) | ((first | (refine hR _ ?_; clear hR R) | refine aZ rfl ?_); try refine aP ?_) | ((repeat (fail_if_success refine hK _ ?_); clear hK K); refine hK _ ?_; clear hK K) | refine aT ?_ | refine aF ?_ | refine aB ?_ | ((first | refine CallK.eff (enter103) (hC) ?_ ?_ ?_ ?_ | refine CallD.eff (enter103) (hC) ?_ ?_ ?_ ?_); (focus exact aC); (focus (simp only [go_sem, hnn]; done)); (focus (simp only [go_sem, hnn]; done)); simp only [go_sem, hnn]) | refine aN ?_ | fail)
 have hlen : (c.eraseIdx i).length = c.length - 1 := by rw [List.length_eraseIdx, if_pos hi]
 refine ret_new (by simp only [Tryz.results97, resOkL, resOk, Tryz.ntmps97, List.toList_toArray]; first | decide | (simp only [go_sem, hlen]; done) | (simp only [go_sem, hlen]; and_intros <;> first | omega | rfl | decide)) (by simp only [resA, resV, Tryz.results97, go_sem, hlen]; try rfl) ?_ hn' h0' ?_ frA <;> simp only [go_sem, List.length_map, hlen] <;> first | rfl | omega
theorem rawAns_pure {bs : Bs} {t : Tm} (h : Pure t) : rawAns bs t = if (sub (sbOf bs) t).size > 120 then (tm0, 2) else (sub (sbOf bs) t, 0) := by
 unfold rawAns
 rw [pure_made h]
 by_cases h2 : (sub (sbOf bs) t).size > 120
 ·rw [if_pos h2, if_pos ((pure_cap h).2 h2)]
 ·rw [if_neg h2, if_neg (fun e => h2 ((pure_cap h).1 e))]
theorem raw_perm {b b' : Bs} (h : (b.map (·.1)).Nodup) (hp : b.Perm b') (t : Tm) : rawAns b' t = rawAns b t := by
 unfold rawAns; rw [apS_perm h hp, madeS_perm h hp]
theorem made_perm {b b' : Bs} (h : (b.map (·.1)).Nodup) (hp : b.Perm b') (c : List Lt) : ifMadeAns b' c = ifMadeAns b c := by
 unfold ifMadeAns
 rw [madeS_perm h hp]
 have e : ∀ t, rawAns b' t = rawAns b t := raw_perm h hp
 simp only [e]
theorem any_raw {bs : Bs} {c : List Lt} (h : PureC c) (hr : ((termsOf c).any fun t => (rawAns bs t).2 != 0) = false) : ∀ t ∈ termsOf c, (sub (sbOf bs) t).size ≤ 120 := fun t ht => by
 have h1 := List.any_eq_false.1 hr t ht
 have h2 : Pure t := by
  obtain ⟨l, hl, rfl | rfl⟩ := termsOf_mem ht
  ·exact (h l hl).1
  ·exact (h l hl).2
 rw [rawAns_pure h2] at h1
 by_cases h3 : (sub (sbOf bs) t).size > 120
 ·rw [if_pos h3] at h1; exact absurd rfl h1
 ·omega
theorem made_small {bs : Bs} {c : List Lt} (h : PureC c) (hl : c.length ≤ 16) (hr : ((termsOf c).any fun t => (rawAns bs t).2 != 0) = false) : Small (c.map (mapLt (mapM (madeS bs)))) := by
 have hz := any_raw h hr
 rw [made_map h]
 refine ⟨by rw [List.length_map]; omega, fun l hl => ?_, fun l hl => ?_⟩
 ·obtain ⟨x, hx, rfl⟩ := List.mem_map.1 hl
  have := hz _ (termsOf_in hx).1
  show (sub (sbOf bs) x.a).size ≤ 1000; omega
 ·obtain ⟨x, hx, rfl⟩ := List.mem_map.1 hl
  have := hz _ (termsOf_in hx).2
  show (sub (sbOf bs) x.b).size ≤ 1000; omega
theorem made_inf {g : List Int} {bs : Bs} {c : List Lt} {prem : List (List Lt)} (B : Bnd g bs) (hf : FormC g c) (hh : ∀ sz tb, mdOk g sz tb = 0 → (∀ c ∈ prem, HoldsA sz tb c) → HoldsA sz tb (c.map (subLt (sbOf bs)))) : InfOk g prem (ifMadeAns bs c) := by
 have hpc := hf.pure
 unfold ifMadeAns
 cases hr : (termsOf c).any fun t => (rawAns bs t).2 != 0 with
 | true => rw [if_pos rfl]; exact .err (by decide)
 | false =>
  rw [if_neg (by decide)]
  have ho := made_own B hf (any_raw hpc hr)
  rw [made_map hpc, neat_tidy fun l hl => ⟨own_good (ho l hl).1, own_good (ho l hl).2⟩]
  by_cases hl : (tidyR (c.map (subLt (sbOf bs)))).length > 8
  ·rw [if_pos hl]; exact .err (by decide)
  ·rw [if_neg hl]
   exact ⟨fun h => absurd rfl h, fun _ => ⟨tidy_ok ho (by omega), fun sz tb hm hp => (holds_tidy (mdOk_all hm).2.1 ho.pure).2 (hh sz tb hm hp)⟩⟩
theorem OwnC.size {g : List Int} {c : List Lt} (h : OwnC g c) : ∀ t ∈ termsOf c, t.size ≤ 120 := fun t ht => by
 obtain ⟨l, hl, rfl | rfl⟩ := termsOf_mem ht
 ·exact own_sz (h l hl).1
 ·exact own_sz (h l hl).2
theorem Bnd.sizes {g : List Int} {bs : Bs} (B : Bnd g bs) : ∀ p ∈ bs, p.2.size ≤ 4000000 := fun p hp => by have := own_sz (B.own p hp); omega
theorem mapRo {n : Nm} {k : Nat} {bs : Bs} (h : Heap) (h1 : n.1 < k) (e : h n = some (.map (bsE bs))) : RoOK k [(n, .map (bsE bs))] h := ⟨fun x hx => by
 simp only [List.mem_cons, List.not_mem_nil, or_false] at hx; subst hx; exact ⟨h1, e⟩⟩
theorem made_any {g : List Int} {bs : Bs} (B : Bnd g bs) {c : List Lt} (hf : FormC g c) (hl : c.length ≤ 16) (hsz : ∀ t ∈ termsOf c, t.size ≤ 4000000) (bs' : Bs) (hp : bs.Perm bs') (mm : Nm) :
  Tri Tryz.prog 96 [.map mm, .d (clDV c)] (rdE [(mm, .map (bsE bs'))] (.tup [.d (clDV (ifMadeAns bs c).1), iA (ifMadeAns bs c).2])) := by
 have := ifMade_tri mm bs' (B.perm hp).sizes c hl hsz (made_small hf.pure hl)
 rw [made_perm B.nd hp] at this
 exact this
theorem bag_perm {bs : Bs} {es' : List (Int × DV)} (hp : (bsE bs).Perm es') : ∃ bs' : Bs, es' = bsE bs' ∧ bs.Perm bs' := perm_unmap _ hp bs rfl
theorem termsOf_erase {c : List Lt} {i : Nat} {t : Tm} (h : t ∈ termsOf (c.eraseIdx i)) : t ∈ termsOf c := by
 obtain ⟨l, hl, h⟩ := List.mem_flatMap.1 h
 exact List.mem_flatMap.2 ⟨l, List.mem_of_mem_eraseIdx hl, h⟩
set_option maxHeartbeats 4000000 in
set_option maxRecDepth 20000 in
theorem same_any' {g : List Int} (c : List Lt) (i : Inf) (hc : OwnC g c) (hl : c.length ≤ 8) {n : Nat} (hi : i.leftAt = n) (hn : n < c.length) :
  ∃ a : List Lt × Int, Tri Tryz.prog 63 [.d (clDV c), .d (ifDV i)] (pure' (.tup [.d (clDV a.1), iA a.2])) ∧ InfOk g [c] a := by
 obtain ⟨kind, left, right, leftAt, rightAt, lt, rt, place⟩ := i
 simp only at hi
 subst hi
 have hz : (n : Int) < (c.length : Int) := by omega
 have e1 : (c.map ltDV).getD n default = ltDV c[n] := nth_map ltDV hn _
 have ho := hc _ (List.getElem_mem hn)
 cases hy : c[n].y with
 | true =>
  refine ⟨([], 4), ?_, .err (by decide)⟩
  refine aE Tryz.func63 rfl Tryz.ntmps63 fun w0 h0 k hrd hwr => ?_
  repeat' (first | refine aQ fun K hK => ?_ | ((first | refine aK fun R hR => ?_ | refine aD mixed fun R hR => ?_); simp only [go_sem, hz, e1, hy, List.length_map, Int.toNat_natCast]) | ((first | (refine hR _ ?_; clear hR R) | refine aZ rfl ?_); try refine aP ?_) | ((repeat (fail_if_success refine hK _ ?_); clear hK K); refine hK _ ?_; clear hK K) | refine aT ?_ | refine aF ?_ | refine aB ?_ | refine aN ?_ | fail)
  (first | refine ret_pure ?_ ?_ ?_ | refine ret_ro ?_ ?_ ?_); focus exact (okA Tryz.ntmps63 Tryz.results63)
  rotate_left; focus exact frT
  simp only [resA, resV, Tryz.results63, go_sem]
  all_goals try exact coA
 | false =>
  rcases both_any ho.1 ho.2 with ⟨e, he, hB⟩ | ⟨bs, B, hs, hB⟩
  ·refine ⟨([], e), ?_, .err he⟩
   have he' : (e != 0) = true := by simpa using he
   refine aE Tryz.func63 rfl Tryz.ntmps63 fun w0 h0 k hrd hwr => ?_
   repeat' (first | refine aQ fun K hK => ?_ | ((first | refine aK fun R hR => ?_ | refine aD mixed fun R hR => ?_); simp only [go_sem, hz, e1, hy, he', List.length_map, Int.toNat_natCast]) | ((first | (refine hR _ ?_; clear hR R) | refine aZ rfl ?_); try refine aP ?_) | ((repeat (fail_if_success refine hK _ ?_); clear hK K); refine hK _ ?_; clear hK K) | refine aT ?_ | refine aF ?_ | refine aB ?_ | ((first | refine CallK.pure (enter95) (hB) ?_ ?_ | refine CallD.pure (enter95) (hB) ?_ ?_); (focus exact aC); simp only [go_sem, hz, e1, hy, he', List.length_map, Int.toNat_natCast]) | refine aN ?_ | fail)
   (first | refine ret_pure ?_ ?_ ?_ | refine ret_ro ?_ ?_ ?_); focus exact (okA Tryz.ntmps63 Tryz.results63)
   rotate_left; focus exact frT
   simp only [resA, resV, Tryz.results63, go_sem]
   all_goals try exact coA
  ·have hf : FormC g (c.eraseIdx n) := form_erase hc.form n
   have hle : (c.eraseIdx n).length ≤ 8 := by have := List.length_eraseIdx_le c n; omega
   refine ⟨ifMadeAns bs (c.eraseIdx n), ?_, made_inf B hf fun sz tb hm hp => same_holds (mdOk_all hm).2.1 (B.inR hm c) hn hy hs (hp c (by simp))⟩
   have hM := made_any B hf (by omega) fun t ht => by have := hc.size t (termsOf_erase ht); omega
   generalize ifMadeAns bs (c.eraseIdx n) = A at hM ⊢
   refine aE Tryz.func63 rfl Tryz.ntmps63 fun w0 h0 k hrd hwr => ?_
   refine awp_new fun hnew => ?_
   have hnn : NoNew h0 k := hnew
   have hnn := hnn.at
   have hB := hB (k + 1 + 1 + 1, 4)
   repeat' (first | (refine awp_bag (x := (k + 1 + 1 + 1, 4)) (es := bsE bs) ?_ fun es' hp => ?_; (focus (simp only [go_sem, ]; done)); obtain ⟨bs', e', hp'⟩ := bag_perm hp; subst e'; simp only [go_sem]) | refine aQ fun K hK => ?_ | ((first | refine aK fun R hR => ?_ | refine aD mixed fun R hR => ?_); simp only [go_sem, hnn, hz, e1, hy, List.length_map, Int.toNat_natCast]) | ((first | (refine hR _ ?_; clear hR R) | refine aZ rfl ?_); try refine aP ?_) | ((repeat (fail_if_success refine hK _ ?_); clear hK K); refine hK _ ?_; clear hK K) | refine aT ?_ | refine aF ?_ | refine aB ?_ | ((first | refine CallK.look (enter96) ((hM bs' hp' (k + 1 + 1 + 1, 4))) ?_ (mapRo (k := k + 1 + 1 + 1 + 1 + 1) _ (by simp only; omega) (by simp only [go_sem, ])) (Fr.rfl' _ _) ?_ | refine CallD.look (enter96) ((hM bs' hp' (k + 1 + 1 + 1, 4))) ?_ (mapRo (k := k + 1 + 1 + 1 + 1 + 1) _ (by simp only; omega) (by simp only [go_sem, ])) (Fr.rfl' _ _) (by first | assumption | exact List.cons_ne_nil _ _) ?_); (focus exact aC); simp only [go_sem, hnn, hz, e1, hy, List.length_map, Int.toNat_natCast]) | ((first | refine CallK.new rfl (enter97) ((fun n' => without_new c hn (by omega) n')) ?_ ?_ ?_ | refine CallD.new rfl (enter97) ((fun n' => without_new c hn (by omega) n')) ?_ ?_ ?_); (focus exact aC); (focus (simp only [go_sem, hnn, hz, e1, hy, List.length_map, Int.toNat_natCast]; done)); simp only [go_sem, hnn, hz, e1, hy, List.length_map, Int.toNat_natCast]) | ((first | refine CallK.eff (enter95) (hB) ?_ ?_ ?_ ?_ | refine CallD.eff (enter95) (hB) ?_ ?_ ?_ ?_); (focus exact aC); (focus (simp only [go_sem, hnn, hz, e1, hy, List.length_map, Int.toNat_natCast]; done)); (focus (simp only [go_sem, hnn, hz, e1, hy, List.length_map, Int.toNat_natCast]; done)); simp only [go_sem, hnn, hz, e1, hy, List.length_map, Int.toNat_natCast]) | refine aN ?_ | fail)
   (first | refine ret_pure ?_ ?_ ?_ | refine ret_ro ?_ ?_ ?_); focus exact (okA Tryz.ntmps63 Tryz.results63)
   rotate_left; focus exact frT
   simp only [resA, resV, Tryz.results63, go_sem]
   all_goals try exact coA
def firstAt {κ : Type} [DecidableEq κ] (k : κ) : List (κ × Value) → Nat → Option (Nat × Value)
 | [], _ => none
 | (k', v) :: m, i => if k = k' then some (i, v) else firstAt k m (i + 1)
def getAt {κ : Type} [DecidableEq κ] (k : κ) : List (κ × Value) → Option Value
 | [] => none
 | (k', v) :: m => if k = k' then some v else getAt k m
def putAt {κ : Type} [DecidableEq κ] (k : κ) (v : Value) : List (κ × Value) → List (κ × Value)
 | [] => [(k, v)]
 | (k', v') :: m => if k = k' then (k', v) :: m else (k', v') :: putAt k v m
theorem firstAt_get {κ : Type} [DecidableEq κ] (k : κ) : ∀ (m : List (κ × Value)) (i : Nat), (firstAt k m i).map (·.2) = getAt k m
 | [], _ => rfl
 | (k', v) :: m, i => by
  unfold firstAt getAt
  split
  ·rfl
  ·exact firstAt_get k m (i + 1)
theorem getAt_put {κ : Type} [DecidableEq κ] (k k' : κ) (v : Value) : ∀ (m : List (κ × Value)), getAt k' (putAt k v m) = if k' = k then some v else getAt k' m
 | [] => by
  unfold putAt getAt
  split <;> simp_all [getAt]
 | (k2, v2) :: m => by
  unfold putAt
  by_cases h : k = k2
  ·subst h
   rw [if_pos rfl]
   unfold getAt
   split <;> simp_all
  ·rw [if_neg h]
   unfold getAt
   rw [getAt_put k k' v m]
   by_cases h2 : k' = k2
   ·subst h2; simp [Ne.symm h]
   ·simp [h2]
structure KeyOk (P : Program) (kt : TypeId) {κ : Type} [DecidableEq κ] (keyV : κ → Value) : Prop where
 check : ∀ (k : κ) (e : Bool) (w : World), (Instr.checkKey e 10000 kt (keyV k)).run P w = .ok () w
 find : ∀ (k : κ) (es : List MapEntry) (m : List (κ × Value)) (w : World), es.map (fun e => (e.key, e.val)) = m.map (fun p => (keyV p.1, p.2)) → (Instr.findKey kt (keyV k) es).run P w = .ok (firstAt k m 0) w
 bits : ∀ k : κ, Instr.sameBits 10000 (keyV k) (keyV k) = true
set_option maxHeartbeats 1000000 in
theorem keyOk_pair {P : Program} {kt et : TypeId} (h : P.underlying kt = some (.array 2 et)) (h2 : P.underlying et = some (.int .i64)) (hs : (P.info? et).map (·.size) = some 1) :
  KeyOk P kt (fun k : Int × Int => Value.agg #[.int .i64 k.1, .int .i64 k.2]) := by
 have hsz : ∀ w, (sizeOf et).run P w = .ok 1 w := by
  intro w
  obtain ⟨i, hi, hi2⟩ := Option.map_eq_some_iff.1 hs
  simp [sizeOf, typeInfo, hi, hi2]
 have hagg : ∀ w, (isAgg et).run P w = .ok false w := by intro w; simp [isAgg, run_underlying h2]
 refine ⟨fun k e w => ?_, fun k es m w hm => ?_, fun k => ?_⟩
 ·have : ∀ d, (Instr.checkKey e (d + 2) kt (.agg #[.int .i64 k.1, .int .i64 k.2])).run P w = .ok () w := fun d => by
   simp [Instr.checkKey, run_underlying h, hsz, part, hagg, run_underlying h2, Std.Legacy.Range.forIn_eq_forIn_range', Std.Legacy.Range.size, List.range', List.forIn_cons]
  obtain ⟨d, hd⟩ : ∃ d, 10000 = d + 2 := ⟨9998, rfl⟩
  rw [hd]; exact this d
 ·have heq : ∀ (a b : Int × Int) w, (Op.equal kt (.agg #[.int .i64 a.1, .int .i64 a.2]) (.agg #[.int .i64 b.1, .int .i64 b.2])).run P w = .ok (decide (a = b)) w := by
   intro a b w
   have : ∀ d, (Op.equalIn (d + 2) kt (.agg #[.int .i64 a.1, .int .i64 a.2]) (.agg #[.int .i64 b.1, .int .i64 b.2])).run P w = .ok (decide (a = b)) w := fun d => by
    obtain ⟨a1, a2⟩ := a
    obtain ⟨b1, b2⟩ := b
    by_cases h3 : a1 = b1 <;> by_cases h4 : a2 = b2 <;>
    simp [Op.equalIn, run_underlying h, hsz, part, hagg, run_underlying h2, Std.Legacy.Range.forIn_eq_forIn_range', Std.Legacy.Range.size, List.range', List.forIn_cons, h3, h4]
   obtain ⟨d, hd⟩ : ∃ d, Op.maxDepth = d + 2 := ⟨9998, rfl⟩
   unfold Op.equal
   rw [hd]; exact this d
  have hask : ∀ (es : List MapEntry) (m : List ((Int × Int) × Value)) (i : Nat), es.map (fun e => (e.key, e.val)) = m.map (fun p => (Value.agg #[.int .i64 p.1.1, .int .i64 p.1.2], p.2)) →
    (Instr.findAsking kt (.agg #[.int .i64 k.1, .int .i64 k.2]) es i).run P w = .ok (firstAt k m i) w := by
   intro es
   induction es with
   | nil =>
    intro m i hm
    cases m with
    | nil => rfl
    | cons _ _ => simp at hm
   | cons e es ih =>
    intro m i hm
    cases m with
    | nil => simp at hm
    | cons p m =>
     simp only [List.map_cons, List.cons.injEq, Prod.mk.injEq] at hm
     obtain ⟨⟨h5, h6⟩, h7⟩ := hm
     unfold Instr.findAsking firstAt
     rw [h5]
     simp only [Sem.run_bind, heq, Result.andThen_ok]
     by_cases hk : k = p.1
     ·rw [decide_eq_true hk, if_pos hk]; simp [h6]
     ·rw [decide_eq_false hk, if_neg hk]; simp [ih m (i + 1) h7]
  cases es with
  | nil =>
   cases m with
   | nil => simp [Instr.findKey, run_underlying h, Instr.findNow, firstAt]
   | cons _ _ => simp at hm
  | cons e es =>
   have h0 := hask (e :: es) m 0 hm
   cases m with
   | nil => simp at hm
   | cons p m =>
    simp only [List.map_cons, List.cons.injEq, Prod.mk.injEq] at hm
    simp [Instr.findKey, run_underlying h, Instr.findNow, hm.1.1, Instr.sameNow, h0]
 ·have : ∀ d, Instr.sameBits (d + 1) (.agg #[.int .i64 k.1, .int .i64 k.2]) (.agg #[.int .i64 k.1, .int .i64 k.2]) = true := fun d => by cases d <;> simp [Instr.sameBits]
  obtain ⟨d, hd⟩ : ∃ d, 10000 = d + 1 := ⟨9999, rfl⟩
  rw [hd]; exact this d
section
variable {κ : Type} [DecidableEq κ] {keyV : κ → Value} {P : Program} {kt et T : TypeId} {w w' : World} {b : Nat} {m : List (κ × Value)}
def MapV (keyV : κ → Value) (w : World) (b : Nat) (m : List (κ × Value)) : Prop :=
 ∃ es clock, w.heap[b]? = some (.map es clock) ∧ es.toList.map (fun e => (e.key, e.val)) = m.map (fun p => (keyV p.1, p.2))
theorem MapV.made (keyV : κ → Value) (w : World) : MapV keyV (w.alloc (.map #[] 0)) w.heap.size [] := ⟨#[], 0, heap_alloc_new w _, rfl⟩
theorem MapV.lt (h : MapV keyV w b m) : b < w.heap.size := by
 obtain ⟨es, clock, hb, _⟩ := h
 exact (Array.getElem?_eq_some_iff.1 hb).1
theorem MapV.ext (h : MapV keyV w b m) (hx : Ext w w') : MapV keyV w' b m := by
 have hl := h.lt
 obtain ⟨es, clock, hb, hm⟩ := h
 exact ⟨es, clock, (hx.block b hl).trans hb, hm⟩
theorem MapV.get (h : MapV keyV w b m) (K : KeyOk P kt keyV) (hT : P.underlying T = some (.map kt et)) {z : Value} (hz : (zeroValue et).run P w = .ok z w) (k : κ) :
  (Instr.lookup T (.map (some b)) (keyV k) false).run P w = .ok ((getAt k m).getD z) w := by
 obtain ⟨es, clock, hb, hm⟩ := h
 have hf := K.find k es.toList m w hm
 have hg := firstAt_get k m 0
 have hgo : (getObj b).run P w = .ok (.map es clock) w := by simp [getObj, Sem.run, hb]
 simp only [Instr.lookup, Sem.run_bind, run_underlying hT, Result.andThen_ok, Sem.run_pure, hgo, K.check, hf]
 cases hq : firstAt k m 0 with
 | none => rw [hq] at hg; simp [← hg, hz]
 | some p => rw [hq] at hg; simp [← hg]
end
theorem firstAt_some {κ : Type} [DecidableEq κ] {k : κ} {v u : Value} : ∀ (m : List (κ × Value)) (j i : Nat), firstAt k m j = some (i, u) → ∃ d, i = j + d ∧ d < m.length ∧ (∀ p, m[d]? = some p → p.1 = k) ∧ putAt k v m = m.set d (k, v)
 | [], _, _, h => by cases h
 | (k', v') :: m, j, i, h => by
  unfold firstAt at h
  by_cases hk : k = k'
  ·subst hk
   rw [if_pos rfl] at h
   cases h
   exact ⟨0, rfl, by simp, by simp, by simp [putAt]⟩
  ·rw [if_neg hk] at h
   obtain ⟨d, h1, h2, h3, h4⟩ := firstAt_some (v := v) m (j + 1) i h
   exact ⟨d + 1, by omega, by simpa using h2, by simpa using h3, by simp [putAt, hk, h4]⟩
theorem firstAt_none {κ : Type} [DecidableEq κ] {k : κ} {v : Value} : ∀ (m : List (κ × Value)) (j : Nat), firstAt k m j = none → putAt k v m = m ++ [(k, v)]
 | [], _, _ => rfl
 | (k', v') :: m, j, h => by
  unfold firstAt at h
  by_cases hk : k = k'
  ·rw [if_pos hk] at h; cases h
  ·rw [if_neg hk] at h
   simp [putAt, hk, firstAt_none m (j + 1) h]
variable {κ : Type} [DecidableEq κ] {keyV : κ → Value} {P : Program} {kt et T : TypeId} {w : World} {b : Nat} {m : List (κ × Value)}
theorem MapV.put (h : MapV keyV w b m) (K : KeyOk P kt keyV) (hT : P.underlying T = some (.map kt et)) (k : κ) (v : Value) :
  ∃ w', (Instr.mapUpdate T (.map (some b)) (keyV k) v).run P w = .ok () w' ∧ MapV keyV w' b (putAt k v m) ∧ w.grownBy w' (some b) := by
 have hlt := h.lt
 obtain ⟨es, clock, hb, hm⟩ := h
 have hf := K.find k es.toList m w hm
 have hgo : (getObj b).run P w = .ok (.map es clock) w := by simp [getObj, Sem.run, hb]
 have hgr : ∀ o, w.grownBy { w with heap := w.heap.setIfInBounds b o } (some b) := fun o =>
  ⟨rfl, rfl, rfl, by simp, fun j _ hj => by
   have : b ≠ j := fun e => hj (by rw [e])
   simp [this]⟩
 have hat : ∀ o, ({ w with heap := w.heap.setIfInBounds b o } : World).heap[b]? = some o := fun o => by simp [hlt]
 cases hq : firstAt k m 0 with
 | none =>
  rw [hq] at hf
  refine ⟨{ w with heap := w.heap.setIfInBounds b (.map (es.push { key := keyV k, val := v, born := clock }) (clock + 1)) }, ?_, ⟨_, _, hat _, ?_⟩, hgr _⟩
  ·simp [Instr.mapUpdate, run_underlying hT, hgo, K.check, hf, MapKept.run_setObj_map _ hb]
  ·rw [firstAt_none m 0 hq]
   simp [hm]
 | some p =>
  obtain ⟨i, u⟩ := p
  rw [hq] at hf
  obtain ⟨d, h1, h2, h3, h4⟩ := firstAt_some (v := v) m 0 i hq
  obtain rfl : i = d := by omega
  have hes : es.size = m.length := by have := congrArg List.length hm; simpa using this
  have hkey : ((es[i]?).map (·.key)).getD (keyV k) = keyV k := by
   have h5 := congrArg (fun l => l[i]?) hm
   simp only [List.getElem?_map, Array.getElem?_toList] at h5
   have h6 : m[i]? = some m[i] := List.getElem?_eq_getElem h2
   rw [h6] at h5
   have h7 := h3 _ h6
   rw [Array.getElem?_eq_getElem (by omega)] at h5 ⊢
   simp only [Option.map_some, Option.some.injEq, Prod.mk.injEq] at h5
   simp [h5.1, h7]
  have hst : (Instr.keyThatStays (keyV k) (keyV k)).run P w = .ok (keyV k) w := by
   simp only [Instr.keyThatStays]
   rw [if_pos (K.bits k)]
   simp
  refine ⟨{ w with heap := w.heap.setIfInBounds b (.map (es.modify i fun e => { e with key := keyV k, val := v }) clock) }, ?_, ⟨_, _, hat _, ?_⟩, hgr _⟩
  ·simp only [Instr.mapUpdate, Sem.run_bind, run_underlying hT, hgo, K.check, hf, Result.andThen_ok, hkey, hst, MapKept.run_setObj_map _ hb]
  ·rw [h4]
   apply List.ext_getElem?
   intro j
   have h5 := congrArg (fun l => l[j]?) hm
   simp only [List.getElem?_map, Array.getElem?_toList] at h5
   simp only [List.getElem?_map, Array.getElem?_toList, Array.getElem?_modify, List.getElem?_set]
   by_cases hij : i = j
   ·subst hij
    simp [h2, show i < es.size by omega]
   ·simp only [if_neg hij]
    exact h5
theorem wpList_put {ops : Array Oper} {rest : List Oper} {o : Oper} {a : Act} {Q : Exit → Act → World → Prop} (hgd : o.guard = none) (hd : o.dst = none) (xm xk xv : Operand) (ho : o.op = .mapUpdate T xm xk xv)
  (h : MapV keyV w b m) (K : KeyOk P kt keyV) (hT : P.underlying T = some (.map kt et)) (k : κ) (v : Value) (h1 : a.eval xm = .map (some b)) (h2 : a.eval xk = keyV k) (h3 : a.eval xv = v)
  (hK : ∀ w', MapV keyV w' b (putAt k v m) → w.grownBy w' (some b) → wpList P ops Q rest a w') : wpList P ops Q (o :: rest) a w := by
 obtain ⟨w', hr, h4, h5⟩ := h.put K hT k v
 refine wpList_plain hgd fun Kk hKk => ?_
 unfold Oper.wp execOp
 simp only [ho, h1, h2, h3, Sem.run_bind, hr, Result.andThen_ok, Sem.run_pure]
 exact hKk _ _ (by simpa [Act.put, hd] using hK w' h4 h5)
def backB (ops : Array Oper) : Bool := (List.range ops.size).all fun i => match ops[i]? with
 | some o => (o.after.all fun e => !Region.binds .any e || decide (e.on < i)) && (match o.guard with | some (j, _) => decide (j < i) | none => true)
 | none => true
theorem backB_spec {ops : Array Oper} (h : backB ops = true) {i : Nat} {o : Oper} (hi : ops[i]? = some o) : ∀ e ∈ o.after, Region.binds .any e = true → e.on < i := by
 intro e he hb
 have hlt : i < ops.size := (Array.getElem?_eq_some_iff.1 hi).1
 have h1 := List.all_eq_true.1 h i (List.mem_range.2 hlt)
 rw [hi] at h1
 simp only [Bool.and_eq_true] at h1
 have h2 := Array.all_eq_true_iff_forall_mem.1 h1.1 e he
 rw [hb] at h2
 simpa using h2
theorem backB_guard {ops : Array Oper} (h : backB ops = true) {i j : Nat} {o : Oper} {b : Bool} (hi : ops[i]? = some o) (hg : o.guard = some (j, b)) : j < i := by
 have hlt : i < ops.size := (Array.getElem?_eq_some_iff.1 hi).1
 have h1 := List.all_eq_true.1 h i (List.mem_range.2 hlt)
 rw [hi] at h1
 simp only [Bool.and_eq_true, hg] at h1
 simpa using h1.2
section
variable {P : Program} {ops pops : Array Oper} {Q : Exit → Act → World → Prop} {n : Nat}
theorem wpAny_tail (hback : backB ops = true) (hchain : Region.chainB .any ops n = true) : ∀ (r k fuel : Nat) (listed : Array Bool) (a : Act) (w : World) (l : List Oper), k + r = ops.size → n ≤ k → r ≤ fuel → listed.size = ops.size →
  (∀ i, i < k → listed.getD i false = true) → (∀ i, k ≤ i → i < ops.size → listed.getD i true = false) → (∀ j, l[j]? = ops[k + j]?) → wpList P ops Q l a w → wpAny P .any ops Q fuel listed a w := by
 intro r
 induction r with
 | zero =>
  intro k fuel listed a w l hk hn hf hs h1 h2 hl h
  have hr : Region.ready .any ops listed = [] := by
   refine List.eq_nil_iff_forall_not_mem.2 fun j hj => ?_
   obtain ⟨hj1, o, ho, _⟩ := mem_ready.1 hj
   have hlt : j < ops.size := (Array.getElem?_eq_some_iff.1 ho).1
   have := h1 j (by omega)
   rw [getD_both hj1] at this
   cases this
  have hl0 : l = [] := by
   cases l with
   | nil => rfl
   | cons x xs =>
    have := hl 0
    rw [Array.getElem?_eq_none (by omega)] at this
    simp at this
  subst hl0
  cases fuel with
  | zero => exact ⟨hr, h⟩
  | succ fuel => exact ⟨fun _ => h, fun i hi => by rw [hr] at hi; cases hi⟩
 | succ r ih =>
  intro k fuel listed a w l hk hn hf hs h1 h2 hl h
  have hklt : k < ops.size := by omega
  have hok : ops[k]? = some ops[k] := Array.getElem?_eq_getElem hklt
  have hkr : k ∈ Region.ready .any ops listed := mem_ready.2 ⟨h2 k (Nat.le_refl _) hklt, _, hok, fun e he hb => h1 _ (backB_spec hback hok e he hb)⟩
  have honly : ∀ j ∈ Region.ready .any ops listed, j = k := by
   intro j hj
   obtain ⟨hj1, o, ho, hall⟩ := mem_ready.1 hj
   have hlt : j < ops.size := (Array.getElem?_eq_some_iff.1 ho).1
   rcases Nat.lt_trichotomy j k with hjk | hjk | hjk
   ·have := h1 j hjk
    rw [getD_both hj1] at this
    cases this
   ·exact hjk
   ·have hc := List.all_eq_true.1 hchain j (List.mem_range.2 hlt)
    simp only [Bool.or_eq_true, decide_eq_true_eq] at hc
    rcases hc with hc | hc
    ·omega
    ·obtain ⟨o', ho', e, he, hb, hon⟩ := Region.waitsFor_spec hc
     have : o' = o := Option.some.inj (ho'.symm.trans ho)
     subst this
     have h3 := hall e he hb
     rw [hon, getD_both (h2 (j - 1) (by omega) (by omega))] at h3
     cases h3
  obtain ⟨o, l', rfl⟩ : ∃ o l', l = o :: l' := by
   cases l with
   | nil => have := hl 0; rw [Nat.add_zero, hok] at this; simp at this
   | cons o l' => exact ⟨o, l', rfl⟩
  have ho : ops[k]? = some o := by simpa using (hl 0).symm
  cases fuel with
  | zero => omega
  | succ fuel =>
   refine ⟨fun h0 => (by rw [h0] at hkr; cases hkr), fun i hi => ?_⟩
   obtain rfl := honly i hi
   have hrec : ∀ a w, wpList P ops Q l' a w → wpAny P .any ops Q fuel (listed.setIfInBounds i true) a w := fun a w h' => by
    refine ih (i + 1) fuel _ a w l' (by omega) (by omega) (by omega) (by simp [hs]) (fun j hj => ?_) (fun j hj hj' => ?_) (fun j => by have := hl (j + 1); simpa [Nat.add_assoc, Nat.add_comm 1 j] using this) h'
    ·by_cases hji : i = j
     ·subst hji; simp [hs, hklt]
     ·rw [getD_set_ne false hji]; exact h1 j (by omega)
    ·rw [getD_set_ne true (by omega)]; exact h2 j (by omega) hj'
   unfold wpOp
   simp only [ho]
   unfold wpList at h
   split
   ·rename_i hw
    rw [if_pos hw] at h
    exact h.imp (Oper.wp_mono hrec) id
   ·rename_i hw
    rw [if_neg hw] at h
    exact hrec _ _ h
theorem wpAny_mild {C : World → Prop} {Qa : Act → Prop} (hn : n ≤ ops.size) (hpn : pops.size = n) (hp : ∀ i, i < n → pops[i]? = ops[i]?) (hback : backB ops = true) (hsink : Region.sinkB .any ops n = true) (hchain : Region.chainB .any ops n = true)
  (hnlt : n < ops.size) (hQ : ∀ a w, C w → Qa a → wpList P ops Q (ops.toList.drop n) a w) :
  ∀ (fuel : Nat) (listed : Array Bool) (a : Act) (w : World), C w → HeadInv .any ops n listed → wpAnyQ P .any pops C Qa fuel listed a → wpAny P .any ops Q (fuel + (ops.size - n)) listed a w := by
 have hrd : ∀ listed i, i < n → (i ∈ Region.ready .any pops listed ↔ i ∈ Region.ready .any ops listed) := by
  intro listed i hi
  rw [mem_ready, mem_ready, hp i hi]
 have hlt : ∀ listed i, i ∈ Region.ready .any pops listed → i < n := by
  intro listed i hi
  obtain ⟨_, o, ho, _⟩ := mem_ready.1 hi
  have := (Array.getElem?_eq_some_iff.1 ho).1
  omega
 have hdone : ∀ (fuel : Nat) (listed : Array Bool) (a : Act) (w : World), ops.size - n ≤ fuel → C w → HeadInv .any ops n listed → Region.ready .any pops listed = [] → Qa a → wpAny P .any ops Q fuel listed a w := by
  intro fuel listed a w hf hC inv hr hq
  have hall : ∀ i, i < n → listed.getD i false = true := by
   intro i
   induction i using Nat.strongRecOn with
   | _ i ih =>
    intro hi
    by_cases hl : listed.getD i false = true
    ·exact hl
    ·exfalso
     have hio : ops[i]? = some (ops[i]'(by omega)) := Array.getElem?_eq_getElem (by omega)
     have : i ∈ Region.ready .any pops listed := (hrd listed i hi).2 (mem_ready.2 ⟨getD_in (by rw [inv.size]; omega) (by simpa using hl), _, hio, fun e he hb => by
      have := backB_spec hback hio e he hb
      exact ih _ this (by omega)⟩)
     rw [hr] at this
     cases this
  exact wpAny_tail hback hchain (ops.size - n) n fuel listed a w (ops.toList.drop n) (by omega) (Nat.le_refl _) hf inv.size hall inv.tail (fun j => by simp) (hQ a w hC hq)
 intro fuel
 induction fuel with
 | zero =>
  intro listed a w hC inv h
  exact hdone _ listed a w (by omega) hC inv h.1 h.2
 | succ fuel ih =>
  intro listed a w hC inv h
  by_cases hr : Region.ready .any pops listed = []
  ·exact hdone _ listed a w (by omega) hC inv hr (h.1 hr)
  ·obtain ⟨i0, hi0⟩ := List.exists_mem_of_ne_nil _ hr
   have hun := (mem_ready.1 ((hrd listed i0 (hlt _ _ hi0)).1 hi0)).1
   have htail : ∀ j ∈ Region.ready .any ops listed, j < n := by
    intro j hj
    rcases Nat.lt_or_ge j n with h | h
    ·exact h
    ·exact absurd hj (tail_waits hsink hchain hnlt inv _ i0 rfl (hlt _ _ hi0) hun j h)
   rw [show fuel + 1 + (ops.size - n) = (fuel + (ops.size - n)) + 1 by omega]
   refine ⟨fun h0 => (by have := (hrd listed i0 (hlt _ _ hi0)).1 hi0; rw [h0] at this; cases this), fun i hi => ?_⟩
   have hin := htail i hi
   have hq := h.2 i ((hrd listed i hin).2 hi)
   have hrec : ∀ a' w', C w' → wpAnyQ P .any pops C Qa fuel (listed.setIfInBounds i true) a' → wpAny P .any ops Q (fuel + (ops.size - n)) (listed.setIfInBounds i true) a' w' :=
    fun a' w' hw' h' => ih _ a' w' hw' (inv.set hi hin) h'
   unfold qOp at hq
   unfold wpOp
   rw [← hp i hin]
   split
   ·rename_i ho; simp only [ho] at hq; exact hrec _ _ hC hq
   ·rename_i o ho
    simp only [ho] at hq
    have hwt : Region.wanted o (yielded ops a.tmps) = Region.wanted o (yielded pops a.tmps) := by
     unfold Region.wanted
     cases hg : o.guard with
     | none => rfl
     | some g =>
      obtain ⟨j, want⟩ := g
      simp only
      have hj : j < n := by have := backB_guard hback ((hp i hin).symm.trans ho) hg; omega
      unfold yielded
      rw [hp j hj]
    rw [hwt]
    split
    ·rename_i hw; simp only [hw, if_true] at hq; exact .inl (Oper.wp_of_quiet hC hrec hq)
    ·rename_i hw; simp only [hw] at hq; exact hrec _ _ hC hq
end
theorem wp_region_tail {P : Program} {id : Nat} {Q : Exit → Act → World → Prop} {a : Act} {w : World} {l : List Oper} (n : Nat) (hm : P.follows .mixedOrders = true)
  (hB : (Region.noSelect (l.take n).toArray && Region.lexFrom .any (l.take n).toArray n 0 (Array.replicate l.length false) && backB l.toArray && Region.sinkB .any l.toArray n && Region.chainB .any l.toArray n && decide (n < l.length)) = true)
  (h : ∀ (I : Type) [Nonempty I] (W : I → World), (∀ i, Ext w (W i)) → (∀ w', Ext w w' → ∃ i, w' = W i) → wpQuiet P (l.take n).toArray (fun w' => ∃ i, w' = W i) (fun a' => ∀ w', (∃ i, w' = W i) → wpList P l.toArray Q (l.drop n) a' w') (l.take n) a) : (Code.region id l.toArray true).wp P Q a w := by
 simp only [Bool.and_eq_true, decide_eq_true_eq] at hB
 obtain ⟨⟨⟨⟨⟨h1, h2⟩, h3⟩, h4⟩, h5⟩, h6⟩ := hB
 have hC : ∀ w', Ext w w' → ∃ i : { w' // Ext w w' }, w' = i.1 := fun w' h => ⟨⟨w', h⟩, rfl⟩
 haveI : Nonempty { w' // Ext w w' } := ⟨⟨w, Ext.rfl' w⟩⟩
 have hl := h { w' // Ext w w' } (fun i => i.1) (fun i => i.2) hC
 have hlen : (l.take n).length = n := by rw [List.length_take]; omega
 have hlex := wpAnyQ_lex (md := .any) h1 (l.take n) 0 (Array.replicate l.length false) a (by simp) (by rw [hlen]; exact h2) hl
 rw [hlen] at hlex
 refine wp_region_any hm ?_
 have := wpAny_mild (P := P) (ops := l.toArray) (pops := (l.take n).toArray) (Q := Q) (n := n) (C := fun w' => ∃ i : { w' // Ext w w' }, w' = i.1) (by simp; omega) (by simpa using hlen)
  (fun i hi => by simp [hi]) h3 h4 h5 (by simpa using h6) (fun a' w' hw' hq => by simpa using hq w' hw') n (Array.replicate l.length false) a _ (hC _ (Ext.draw (Ext.rfl' w)))
  ⟨by simp, fun j oj hj hl => (by rw [getD_replicate_false] at hl; cases hl), fun t ht ht' => (by simp at ht'; simp [ht'])⟩ hlex
 have e : n + (l.toArray.size - n) = l.toArray.size := by simp; omega
 rw [e] at this
 simpa using this
abbrev pk (k : Int × Int) : Value := .agg #[.int .i64 k.1, .int .i64 k.2]
theorem pk_ok : KeyOk Tryz.prog 174 pk := keyOk_pair (et := 3) Tryz.underlying174 Tryz.underlying3 (by kernel_rfl)
theorem zero_bool (w : World) : (zeroValue 4).run Tryz.prog w = .ok (.bool false) w := by kernel_rfl
def MapF (w : World) (b : Nat) (f : Int × Int → Bool) : Prop := ∃ m, MapV pk w b m ∧ ∀ k, (getAt k m).getD (.bool false) = .bool (f k)
theorem MapF.ext {w w' : World} {b : Nat} {f : Int × Int → Bool} (h : MapF w b f) (hx : Ext w w') : MapF w' b f := by
 obtain ⟨m, h1, h2⟩ := h; exact ⟨m, h1.ext hx, h2⟩
theorem MapF.get {w : World} {b : Nat} {f : Int × Int → Bool} (h : MapF w b f) (x y : Int) : (Instr.lookup 170 (.map (some b)) (.agg #[.int .i64 x, .int .i64 y]) false).run Tryz.prog w = .ok (.bool (f (x, y))) w := by
 obtain ⟨m, h1, h2⟩ := h
 rw [← h2 (x, y)]
 exact h1.get pk_ok Tryz.underlying170 (zero_bool w) (x, y)
theorem mild_map {I : Type} {W : I → World} {w : World} (hE : ∀ i, Ext w (W i)) {b : Nat} {f : Int × Int → Bool} (h : MapF w b f) (x y : Int) :
  ∀ i, (Instr.lookup 170 (.map (some b)) (.agg #[.int .i64 x, .int .i64 y]) false).run Tryz.prog (W i) = .ok (.bool (f (x, y))) (W i) := fun i => (h.ext (hE i)).get x y
set_option maxRecDepth 10000 in
set_option maxHeartbeats 400000 in
theorem equalI_any (S S' : Nat → Prop) (xs ys : List Int) (hlen : xs.length = ys.length) (p : Int → Int → Bool) (a a' : Option Addr) (cap cap' fk : Nat) (caps : Array Value) (w : World)
  (_hc1 : xs.length ≤ cap) (hc2 : cap ≤ maxLen) (h1 : SlI w S xs a) (h2 : SlI w S' ys a')
  (hfk : ∀ args w, Sem.run Tryz.prog (callFunc fk args) w = .ok (.enter fk args) w)
  (hf : ∀ i (h : i < xs.length) (h' : i < ys.length) (wr : World), Ext w wr → Calls Tryz.prog fk (#[.int .i64 xs[i], .int .i64 ys[i]] ++ caps) wr fun e w' => e = .returned (.bool (p xs[i] ys[i])) ∧ Ext wr w') :
  Calls Tryz.prog 146 #[.slice a xs.length cap, .slice a' ys.length cap', .func (.func fk) #[] caps] w fun e w' => e = .returned (.bool ((xs.zip ys).all fun q => p q.1 q.2)) ∧ Ext w w' := by
 unfold maxLen at hc2
 have HF := hid hf; clear hf
 have hne : ((xs.length : Int) != ys.length) = false := by simp [hlen]
 have HL := hid hlen; clear hlen
 go_enter Tryz.func146, Tryz.ntmps146
 go_wp2_with fail
 clear hne
 go_loopw [17] (fun i wr => ∃ k : Nat, k ≤ xs.length ∧ i = .int .i64 k ∧ ((xs.zip ys).take k).all (fun q => p q.1 q.2) = true ∧ Ext w wr) (fun i _ => xs.length - (intOf i).toNat)
 case atStart => exact ⟨0, by omega, rfl, by simp, Ext.rfl' _⟩
 case round =>
  obtain ⟨k, hk, rfl, hi, hx⟩ := hrel
  have HI := hid hi; clear hi
  by_cases hlt : k < xs.length
  ·have hlt' : k < ys.length := by have := HL.out; omega
   obtain ⟨b, o, rfl⟩ := h1.some_ (by omega)
   obtain ⟨b', o', rfl⟩ := h2.some_ (by omega)
   obtain ⟨_, hz, hc⟩ := (h1.ext hx).at_ hlt
   obtain ⟨_, hz', hc'⟩ := (h2.ext hx).at_ hlt'
   have hc : wr.cell? ⟨b, o + k, none⟩ = some (.int .i64 xs[k]) := by simpa using hc
   have hc' : wr.cell? ⟨b', o' + k, none⟩ = some (.int .i64 ys[k]) := by simpa using hc'
   have HC := hid (HF.out k hlt hlt' wr hx)
   have hzl : k < (xs.zip ys).length := by simp; omega
   have HY := hid (show p xs[k] ys[k] = true → ((xs.zip ys).take (k + 1)).all (fun q => p q.1 q.2) = true from fun h => by
    rw [List.take_succ_eq_append_getElem hzl, List.all_append, HI.out]; simp [h])
   have HN := hid (show p xs[k] ys[k] = false → (xs.zip ys).all (fun q => p q.1 q.2) = false from fun h => by
    rw [List.all_eq_false]; exact ⟨(xs.zip ys)[k], List.getElem_mem hzl, by simp [h]⟩)
   generalize hp : p xs[k] ys[k] = q at *
   clear hp hzl
   go_wp2_with fail
   refine HC.out.mono ?_
   rintro e w' ⟨rfl, hx'⟩
   cases q
   ·go_wp2_with fail
    go_ret
    exact ⟨ret_bool (HN.out trivial).symm, hx.step hx'⟩
   ·go_wp2_with fail
    go_roundw
    case rel => exact ⟨k + 1, by omega, by go_num, HY.out trivial, hx.step hx'⟩
    case measure => simp [intOf]; omega
  ·obtain rfl : k = xs.length := by omega
   have HZ := hid (show (xs.zip ys).all (fun q => p q.1 q.2) = true by
    have := HI.out; rwa [List.take_of_length_le (by simp; omega)] at this)
   go_wp2_with fail
   go_ret
   exact ⟨ret_bool HZ.out.symm, hx⟩
set_option maxHeartbeats 400000 in
theorem equalI_no (xs ys : List Int) (hlen : xs.length ≠ ys.length) (a a' : Option Addr) (cap cap' : Nat) (fv : Value) (w : World) :
  Calls Tryz.prog 146 #[.slice a xs.length cap, .slice a' ys.length cap', fv] w fun e w' => e = .returned (.bool false) ∧ w = w' := by
 have hne : ((xs.length : Int) != ys.length) = true := by simp; omega
 clear hlen
 go_enter Tryz.func146, Tryz.ntmps146
 go_wp2_with fail
 go_ret
 exact ⟨rfl, rfl⟩
set_option maxRecDepth 10000 in
set_option maxHeartbeats 400000 in
theorem one1_any (x y : Int) (bx bc bs : Nat) (f : Int × Int → Bool) (w : World) (h1 : w.cell? ⟨bx, 0, none⟩ = some (.pointer (some ⟨bc, 0, none⟩))) (h2 : w.cell? ⟨bc, 2, none⟩ = some (.map (some bs))) (h3 : MapF w bs f) :
  Calls Tryz.prog 147 #[.int .i64 x, .int .i64 y, .pointer (some ⟨bx, 0, none⟩)] w fun e w' => e = .returned (.bool (f (x, y))) ∧ Ext w w' := by
 have hl := h3.get x y
 go_enter Tryz.func147, Tryz.ntmps147
 go_wp2_with fail
 go_ret
 exact ⟨rfl, Ext.rfl' _⟩
theorem one1_enter (args : Array Value) (w : World) : Sem.run Tryz.prog (callFunc 147 args) w = .ok (.enter 147 args) w := by
 go_simp
set_option maxRecDepth 10000 in
set_option maxHeartbeats 400000 in
theorem greater1_any (x k : Int) (bx bk bc bs ba : Nat) (f h : Int × Int → Bool) (w : World) (h1 : w.cell? ⟨bx, 0, none⟩ = some (.pointer (some ⟨bc, 0, none⟩))) (hk : w.cell? ⟨bk, 0, none⟩ = some (.int .i64 k))
  (h2 : w.cell? ⟨bc, 2, none⟩ = some (.map (some bs))) (h3 : w.cell? ⟨bc, 3, none⟩ = some (.map (some ba))) (h4 : MapF w bs f) (h5 : MapF w ba h) :
  Calls Tryz.prog 151 #[.int .i64 x, .pointer (some ⟨bx, 0, none⟩), .pointer (some ⟨bk, 0, none⟩)] w fun e w' => e = .returned (.bool (f (x, k) || h (x, k))) ∧ Ext w w' := by
 cases hq : f (x, k)
 ·go_enter Tryz.func151, Tryz.ntmps151
  go_wp2_with fail
  refine wp_region_mild (by kernel_rfl) (by kernel_rfl) ?_
  intro I _ W hE hC
  have f1 := mild_cell hE h1
  have f2 := mild_cell hE hk
  have f3 := mild_cell hE h2
  have f4 := mild_cell hE h3
  have f5 := mild_map hE h4 x k
  have f6 := mild_map hE h5 x k
  rw [hq] at f5
  repeat (go_big_quiet_step (fail))
  refine wpQuiet_nil ?_
  intro _ hw'
  obtain ⟨i, hw''⟩ := hw'
  subst hw''
  go_wp2_with fail
  go_ret
  exact ⟨by simp, hE i⟩
 ·go_enter Tryz.func151, Tryz.ntmps151
  go_wp2_with fail
  refine wp_region_mild (by kernel_rfl) (by kernel_rfl) ?_
  intro I _ W hE hC
  have f1 := mild_cell hE h1
  have f2 := mild_cell hE hk
  have f3 := mild_cell hE h2
  have f5 := mild_map hE h4 x k
  rw [hq] at f5
  repeat (go_big_quiet_step (fail))
  refine wpQuiet_nil ?_
  intro _ hw'
  obtain ⟨i, hw''⟩ := hw'
  subst hw''
  go_wp2_with fail
  go_ret
  exact ⟨by simp, hE i⟩
theorem greater1_enter (args : Array Value) (w : World) : Sem.run Tryz.prog (callFunc 151 args) w = .ok (.enter 151 args) w := by
 go_simp
set_option maxRecDepth 10000 in
set_option maxHeartbeats 400000 in
theorem greater2_any (x k : Int) (bx bk bc ba : Nat) (h : Int × Int → Bool) (w : World) (h1 : w.cell? ⟨bx, 0, none⟩ = some (.pointer (some ⟨bc, 0, none⟩))) (hk : w.cell? ⟨bk, 0, none⟩ = some (.int .i64 k))
  (h3 : w.cell? ⟨bc, 3, none⟩ = some (.map (some ba))) (h5 : MapF w ba h) :
  Calls Tryz.prog 152 #[.int .i64 x, .pointer (some ⟨bx, 0, none⟩), .pointer (some ⟨bk, 0, none⟩)] w fun e w' => e = .returned (.bool (!h (k, x))) ∧ Ext w w' := by
 go_enter Tryz.func152, Tryz.ntmps152
 go_wp2_with fail
 refine wp_region_mild (by kernel_rfl) (by kernel_rfl) ?_
 intro I _ W hE hC
 have f1 := mild_cell hE h1
 have f2 := mild_cell hE hk
 have f4 := mild_cell hE h3
 have f6 := mild_map hE h5 k x
 repeat (go_big_quiet_step (fail))
 refine wpQuiet_nil ?_
 intro _ hw'
 obtain ⟨i, hw''⟩ := hw'
 subst hw''
 go_wp2_with fail
 go_ret
 exact ⟨by simp, hE i⟩
theorem greater2_enter (args : Array Value) (w : World) : Sem.run Tryz.prog (callFunc 152 args) w = .ok (.enter 152 args) w := by
 go_simp
end Go.Proofs.YtmeekpinkfpnhabGreat

/- superposeref.GreaterOf: a round, from its beginning. superposeref.GreaterOf. rewrite.Step, Normal; superposeref.StepOf, NormalOf, CheckRules. -/
import Derived.Test.YtmeekpinkfpnhaaB12
set_option linter.unusedSimpArgs false
set_option linter.unusedSectionVars false
set_option linter.unusedVariables false
set_option linter.unnecessarySimpa false
set_option linter.all false
namespace Go.Proofs.Ytmeekpinkfpnhaa
open Go.RowKit
section
variable {ps pt : List Tm} {la lb : List (List Int)} {T x y : Nm} {nm : Nat → Nm} {i j : Nat} {w0 : World} {Q : Exit → St → Prop}
variable (hi : i < ps.length) (hj : j < pt.length) (hi' : i < la.length) (hj' : j < lb.length) (hT : T ≠ nm i) (hnm : ∀ a, a < i → nm a ≠ nm i)
variable (hsa : ∀ (n : Nat) (h : n < la[i].length), ∃ a : Nat, la[i][n] = (a : Int) ∧ a < i) (hta : ∀ (n : Nat) (h : n < lb[j].length), ∃ a : Nat, lb[j][n] = (a : Int) ∧ a < j)
variable (hla : la[i].length ≤ 4000000) (hlb : lb[j].length ≤ 4000000)
variable (hlen : ps[i].v = 0 → pt[j].v = 0 → ps[i].f = pt[j].f → la[i].length = lb[j].length)
variable (hG : grG (sameN ps pt) (gtN ps pt) ps[i].v ps[i].f la[i] pt[j].v pt[j].f lb[j] i j = gtN ps pt (i, j))
include hi hj hi' hj' hT hnm hsa hta hla hlb hlen hG
theorem gre_base (σ : St) (hc : GCx ps pt la lb T x y nm i j σ) (h14 : σ.t 14 = bA (grYes (sameN ps pt) (gtN ps pt) ps[i].v la[i] j))
    (hQ : ∀ σ', GPost ps pt nm i j σ σ' → Q .normal σ') {N : Nat} {c : Code} (hN : (Try.f16).ntmps = N) (hc : bodyAt (Try.f16) [true,true,true,true,false,true,false,false,true,false,false,true,true,false,false,true,false,false,true,true,true] = some c) : awp Try.prog w0 N c Q σ := by
  have fin : ∀ σ1, GKeep σ σ1 → ∀ base, base = (ps[i].v == 0 && pt[j].v == 0 && decide (pt[j].f ≤ ps[i].f)) → σ1.t 14 = bA (grYes (sameN ps pt) (gtN ps pt) ps[i].v la[i] j) → σ1.t 17 = bA base → ∀ {c' : Code}, bodyAt (Try.f16) [true,true,true,true,false,true,false,false,true,false,false,true,true,false,false,true,false,false,true,true,true,true] = some c' → awp Try.prog w0 N c' Q σ1 := by
    intro σ1 g1 base g2 g3 g4 c' hc'
    refine gre_all hi hj hi' hj' hT hnm hsa hta hla hlb σ1 (g1.cx ‹_›) _ base g3 g4 (fun h => ?_) (fun all ha => ?_) (fun σ' hp => hQ σ' (g1.post hp)) hN hc'
    · rw [g2] at h
      simp only [Bool.and_eq_true, beq_iff_eq] at h
      exact hlen h.1.1 h.1.2
    · rw [← hG, ha, g2]; rfl
  obtain rfl := (Try.ntmps16).symm.trans hN; obtain rfl := Option.some.inj (show some _ = some c from hc); clear hN hc
  obtain ⟨s5, s6, s7, s8, s9, s10, s11, s12, s13, hx, hy, hTT, hr, hii⟩ := id hc
  have hx := hx hi
  have hy := hy hj
  by_cases hv : ps[i].v = 0
  · by_cases hv' : pt[j].v = 0
    · repeat' (first | refine fin _ ?_ (decide (pt[j].f ≤ ps[i].f)) ?_ ?_ ?_ rfl | refine awp_seq_k fun K hK => ?_ | ((first | refine awp_region_k (by kernel_rfl) fun R hR => ?_ | refine awp_draw mixed (by kernel_rfl) (by kernel_rfl) fun R hR => ?_); simp only [go_sem, s12, s13, hx, hy, hv, hv', beq_self_eq_true, ge_iff_le]) | ((first | (refine hR _ ?_; clear hR R) | refine awp_skip ?_ | refine awp_exit ?_ | refine awp_ret ?_); try simp only [thenA, inBlockA, reduceIte, reduceCtorEq, Nat.reduceEqDiff, if_false, if_true]) | ((first | refine hK _ ?_ | (clear hK K; first | refine hK _ ?_ | (clear hK K; first | refine hK _ ?_ | (clear hK K; first | refine hK _ ?_ | (clear hK K; refine hK _ ?_))))); clear hK K) | refine awp_true rfl rfl ?_ | refine awp_false rfl rfl ?_ | refine awp_block ?_ | refine And.intro (by first | ((repeat' first | omega | exact trivial | rfl | assumption | (intro a e; subst e; rfl) | exact map_sz fun a => (by simp only [go_sem]) | refine And.intro ?_ ?_); done) | fail) ?_ | fail)
      · exact (by repeat (first | exact Keep.of (by assumption) | exact Keep.rfl' _ _ | refine Keep.set ?_ (by rfl) | refine Keep.tick ?_))
      · simp [hv, hv']
      · simp only [go_sem, h14]
      · simp only [go_sem]
    · have hv'' : (pt[j].v == 0) = false := by simpa using hv'
      repeat' (first | refine fin _ ?_ false ?_ ?_ ?_ rfl | refine awp_seq_k fun K hK => ?_ | ((first | refine awp_region_k (by kernel_rfl) fun R hR => ?_ | refine awp_draw mixed (by kernel_rfl) (by kernel_rfl) fun R hR => ?_); simp only [go_sem, s12, s13, hx, hy, hv, hv'', beq_self_eq_true]) | ((first | (refine hR _ ?_; clear hR R) | refine awp_skip ?_ | refine awp_exit ?_ | refine awp_ret ?_); try simp only [thenA, inBlockA, reduceIte, reduceCtorEq, Nat.reduceEqDiff, if_false, if_true]) | ((first | refine hK _ ?_ | (clear hK K; first | refine hK _ ?_ | (clear hK K; first | refine hK _ ?_ | (clear hK K; first | refine hK _ ?_ | (clear hK K; refine hK _ ?_))))); clear hK K) | refine awp_true rfl rfl ?_ | refine awp_false rfl rfl ?_ | refine awp_block ?_ | refine And.intro (by first | ((repeat' first | omega | exact trivial | rfl | assumption | (intro a e; subst e; rfl) | exact map_sz fun a => (by simp only [go_sem]) | refine And.intro ?_ ?_); done) | fail) ?_ | fail)
      · exact (by repeat (first | exact Keep.of (by assumption) | exact Keep.rfl' _ _ | refine Keep.set ?_ (by rfl) | refine Keep.tick ?_))
      · simp [hv'']
      · simp only [go_sem, h14]
      · simp only [go_sem]
  · have hv'' : (ps[i].v == 0) = false := by simpa using hv
    repeat' (first | refine fin _ ?_ false ?_ ?_ ?_ rfl | refine awp_seq_k fun K hK => ?_ | ((first | refine awp_region_k (by kernel_rfl) fun R hR => ?_ | refine awp_draw mixed (by kernel_rfl) (by kernel_rfl) fun R hR => ?_); simp only [go_sem, s12, s13, hx, hy, hv'']) | ((first | (refine hR _ ?_; clear hR R) | refine awp_skip ?_ | refine awp_exit ?_ | refine awp_ret ?_); try simp only [thenA, inBlockA, reduceIte, reduceCtorEq, Nat.reduceEqDiff, if_false, if_true]) | ((first | refine hK _ ?_ | (clear hK K; first | refine hK _ ?_ | (clear hK K; first | refine hK _ ?_ | (clear hK K; first | refine hK _ ?_ | (clear hK K; refine hK _ ?_))))); clear hK K) | refine awp_true rfl rfl ?_ | refine awp_false rfl rfl ?_ | refine awp_block ?_ | refine And.intro (by first | ((repeat' first | omega | exact trivial | rfl | assumption | (intro a e; subst e; rfl) | exact map_sz fun a => (by simp only [go_sem]) | refine And.intro ?_ ?_); done) | fail) ?_ | fail)
    · exact (by repeat (first | exact Keep.of (by assumption) | exact Keep.rfl' _ _ | refine Keep.set ?_ (by rfl) | refine Keep.tick ?_))
    · simp [hv'']
    · simp only [go_sem, h14]
    · simp only [go_sem]
theorem gre_yes (σ : St) (hc : GCx ps pt la lb T x y nm i j σ) (h14 : σ.t 14 = bA false)
    (hQ : ∀ σ', GPost ps pt nm i j σ σ' → Q .normal σ') {N : Nat} {c : Code} (hN : (Try.f16).ntmps = N) (hc : bodyAt (Try.f16) [true,true,true,true,false,true,false,false,true,false,false,true,true,false,false,true,false,false,true,true] = some c) : awp Try.prog w0 N c Q σ := by
  have fin : ∀ σ1, GKeep σ σ1 → ∀ yes, yes = grYes (sameN ps pt) (gtN ps pt) ps[i].v la[i] j → σ1.t 14 = bA yes → ∀ {c' : Code}, bodyAt (Try.f16) [true,true,true,true,false,true,false,false,true,false,false,true,true,false,false,true,false,false,true,true,true] = some c' → awp Try.prog w0 N c' Q σ1 := by
    intro σ1 g1 yes g2 g3 c' hc'
    exact gre_base hi hj hi' hj' hT hnm hsa hta hla hlb hlen hG σ1 (g1.cx ‹_›) (by rw [g3, g2]) (fun σ' hp => hQ σ' (g1.post hp)) hN hc'
  obtain rfl := (Try.ntmps16).symm.trans hN; obtain rfl := Option.some.inj (show some _ = some c from hc); clear hN hc
  obtain ⟨s5, s6, s7, s8, s9, s10, s11, s12, s13, hx, hy, hTT, hr, hii⟩ := id hc
  have hx := hx hi
  have hy := hy hj
  have ea : (la.map gI).getD i default = gI la[i] := nth_map gI hi' _
  by_cases hv : ps[i].v = 0
  · repeat' (first | refine awp_seq_k fun K hK => ?_ | ((first | refine awp_region_k (by kernel_rfl) fun R hR => ?_ | refine awp_draw mixed (by kernel_rfl) (by kernel_rfl) fun R hR => ?_); simp only [go_sem, s12, hx, hv, beq_self_eq_true]) | ((first | (refine hR _ ?_; clear hR R) | refine awp_skip ?_ | refine awp_exit ?_ | refine awp_ret ?_); try simp only [thenA, inBlockA, reduceIte, reduceCtorEq, Nat.reduceEqDiff, if_false, if_true]) | ((first | refine hK _ ?_ | (clear hK K; first | refine hK _ ?_ | (clear hK K; first | refine hK _ ?_ | (clear hK K; first | refine hK _ ?_ | (clear hK K; refine hK _ ?_))))); clear hK K) | refine awp_true rfl rfl ?_ | refine awp_false rfl rfl ?_ | refine awp_block ?_ | refine And.intro (by first | ((repeat' first | omega | exact trivial | rfl | assumption | (intro a e; subst e; rfl) | exact map_sz fun a => (by simp only [go_sem]) | refine And.intro ?_ ?_); done) | fail) ?_ | fail)
    let G : Int → Bool := fun a => gtN ps pt (a, j) || sameN ps pt (a, j)
    refine awp_loop (fun τ => ∃ (n : Nat) (cur : Bool), GKeep σ τ ∧ τ.t 14 = bA cur ∧ τ.t 15 = iA n ∧ n ≤ la[i].length ∧ (cur || (la[i].drop n).any G) = la[i].any G) (fun τ => la[i].length - (intOf' (τ.t 15)).toNat) ?_ ?_
    · refine ⟨0, false, (by repeat (first | exact Keep.of (by assumption) | exact Keep.rfl' _ _ | refine Keep.set ?_ (by rfl) | refine Keep.tick ?_)), ?_⟩
      simp only [go_sem, h14, List.drop_zero]
      and_intros; all_goals try (first | rfl | omega | assumption | ((repeat (first | exact Fr.rfl' _ _ | assumption | refine Fr.updk ?_ (by omega) _)); done))
    · rintro τ ⟨n, cur, hk, t14, t15, hn, hcur⟩
      obtain ⟨u5, u6, u7, u8, u9, u10, u11, u12, u13, ux, uy, uT, ur, ui⟩ := hk.cx hc
      have uy := uy hj
      rcases Nat.lt_or_ge n la[i].length with hlt | hge
      · have hlz : (n : Int) < (la[i].length : Int) := by omega
        obtain ⟨p, ep, hp⟩ := hsa n hlt
        have hp' : p < ps.length := by omega
        have k1 : (tabA nm ps.length pt.length (i + 1)).getD p .junk = .arr (nm p) 0 pt.length := tabA_at (by omega) hi
        have k2 : (rowA ps pt p pt.length).getD j .junk = bA (gtN ps pt (p, j)) := rowA_at hj (Nat.le_refl _)
        have k3 := ur p hp
        have f1 : (la[i].map iD).getD n default = iD p := by rw [nth_map iD hlt, ep]
        have f3 : (ps.map tmDV).getD p default = tmDV ps[p] := nth_map tmDV hp' _
        have hs := sameN_at hp' hj
        have hd : (la[i].drop n).any G = (G p || (la[i].drop (n + 1)).any G) := by
          rw [List.drop_eq_getElem_cons hlt, List.any_cons, ep]
        rw [hd, ← Bool.or_assoc] at hcur
        cases cur with
        | true =>
          repeat' (first | refine awp_seq_k fun K hK => ?_ | ((first | refine awp_region_k (by kernel_rfl) fun R hR => ?_ | refine awp_draw mixed (by kernel_rfl) (by kernel_rfl) fun R hR => ?_); simp only [go_sem, t14, t15, u7, u10, ea, hlz, f1, Int.toNat_natCast]) | ((first | (refine hR _ ?_; clear hR R) | refine awp_skip ?_ | refine awp_exit ?_ | refine awp_ret ?_); try simp only [thenA, inBlockA, reduceIte, reduceCtorEq, Nat.reduceEqDiff, if_false, if_true]) | ((first | refine hK _ ?_ | (clear hK K; first | refine hK _ ?_ | (clear hK K; first | refine hK _ ?_ | (clear hK K; first | refine hK _ ?_ | (clear hK K; refine hK _ ?_))))); clear hK K) | refine awp_true rfl rfl ?_ | refine awp_false rfl rfl ?_ | refine awp_block ?_ | refine And.intro (by first | ((repeat' first | omega | exact trivial | rfl | assumption | (intro a e; subst e; rfl) | exact map_sz fun a => (by simp only [go_sem]) | refine And.intro ?_ ?_); done) | fail) ?_ | fail)
          refine ⟨⟨n + 1, true, (by repeat (first | exact Keep.of (by assumption) | exact Keep.rfl' _ _ | refine Keep.set ?_ (by rfl) | refine Keep.tick ?_)), ?_⟩, ?_⟩
          · simp only [go_sem, t14, t15]
            and_intros; all_goals try (first | rfl | omega | assumption | ((repeat (first | exact Fr.rfl' _ _ | assumption | refine Fr.updk ?_ (by omega) _)); done))
          · simp only [go_sem, t15]; omega
        | false =>
          cases hg : gtN ps pt (p, j) with
          | true =>
            repeat' (first | refine awp_seq_k fun K hK => ?_ | ((first | refine awp_region_k (by kernel_rfl) fun R hR => ?_ | refine awp_draw mixed (by kernel_rfl) (by kernel_rfl) fun R hR => ?_); simp only [go_sem, t14, t15, u5, u7, u9, u10, u11, ea, hlz, f1, uT, k1, k2, k3, hg, Int.toNat_natCast, Nat.mul_one, tabA_len, rowA_len]) | ((first | (refine hR _ ?_; clear hR R) | refine awp_skip ?_ | refine awp_exit ?_ | refine awp_ret ?_); try simp only [thenA, inBlockA, reduceIte, reduceCtorEq, Nat.reduceEqDiff, if_false, if_true]) | ((first | refine hK _ ?_ | (clear hK K; first | refine hK _ ?_ | (clear hK K; first | refine hK _ ?_ | (clear hK K; first | refine hK _ ?_ | (clear hK K; refine hK _ ?_))))); clear hK K) | refine awp_true rfl rfl ?_ | refine awp_false rfl rfl ?_ | refine awp_block ?_ | refine And.intro (by first | ((repeat' first | omega | exact trivial | rfl | assumption | (intro a e; subst e; rfl) | exact map_sz fun a => (by simp only [go_sem]) | refine And.intro ?_ ?_); done) | fail) ?_ | fail)
            refine ⟨⟨n + 1, true, (by repeat (first | exact Keep.of (by assumption) | exact Keep.rfl' _ _ | refine Keep.set ?_ (by rfl) | refine Keep.tick ?_)), ?_⟩, ?_⟩
            · simp only [go_sem, t14, t15]
              and_intros; all_goals try (first | rfl | omega | assumption | ((repeat (first | exact Fr.rfl' _ _ | assumption | refine Fr.updk ?_ (by omega) _)); done))
              rw [← hcur]; simp [G, hg]
            · simp only [go_sem, t15]; omega
          | false =>
            repeat' (first | refine awp_seq_k fun K hK => ?_ | ((first | refine awp_region_k (by kernel_rfl) fun R hR => ?_ | refine awp_draw mixed (by kernel_rfl) (by kernel_rfl) fun R hR => ?_); simp only [go_sem, t14, t15, u5, u7, u9, u10, u11, u13, uy, ea, hlz, f1, f3, uT, k1, k2, k3, hg, Int.toNat_natCast, Nat.mul_one, tabA_len, rowA_len]) | ((first | (refine hR _ ?_; clear hR R) | refine awp_skip ?_ | refine awp_exit ?_ | refine awp_ret ?_); try simp only [thenA, inBlockA, reduceIte, reduceCtorEq, Nat.reduceEqDiff, if_false, if_true]) | ((first | refine hK _ ?_ | (clear hK K; first | refine hK _ ?_ | (clear hK K; first | refine hK _ ?_ | (clear hK K; first | refine hK _ ?_ | (clear hK K; refine hK _ ?_))))); clear hK K) | refine awp_true rfl rfl ?_ | refine awp_false rfl rfl ?_ | refine awp_block ?_ | ((first | refine CallK.pure (enter47) (sameR_tri ps[p] pt[j]) ?_ ?_ | refine CallD.pure (enter47) (sameR_tri ps[p] pt[j]) ?_ ?_); (focus first | ((repeat (first | exact trivial | refine ⟨(by first | exact Or.inl rfl | exact Or.inr rfl), ?_⟩)); done) | (simp only [coL, AV.dat, true_or, or_true, AV.d.injEq, go_sem]; done)); simp only [go_sem, t14, t15, u5, u7, u9, u10, u11, u13, uy, ea, hlz, f1, f3, uT, k1, k2, k3, hg, Int.toNat_natCast, Nat.mul_one, tabA_len, rowA_len]) | refine And.intro (by first | ((repeat' first | omega | exact trivial | rfl | assumption | (intro a e; subst e; rfl) | exact map_sz fun a => (by simp only [go_sem]) | refine And.intro ?_ ?_); done) | fail) ?_ | fail)
            refine ⟨⟨n + 1, same ps[p] pt[j], (by repeat (first | exact Keep.of (by assumption) | exact Keep.rfl' _ _ | refine Keep.set ?_ (by rfl) | refine Keep.tick ?_)), ?_⟩, ?_⟩
            · simp only [go_sem, t14, t15]
              and_intros; all_goals try (first | rfl | omega | assumption | ((repeat (first | exact Fr.rfl' _ _ | assumption | refine Fr.updk ?_ (by omega) _)); done))
              rw [← hcur]; simp [G, hg, hs]
            · simp only [go_sem, t15]; omega
      · have hge' : n = la[i].length := by omega
        have hlz : ¬ ((n : Int) < (la[i].length : Int)) := by omega
        repeat' (first | refine fin _ ?_ cur ?_ ?_ rfl | refine awp_seq_k fun K hK => ?_ | ((first | refine awp_region_k (by kernel_rfl) fun R hR => ?_ | refine awp_draw mixed (by kernel_rfl) (by kernel_rfl) fun R hR => ?_); simp only [go_sem, t14, t15, u7, u10, ea, hlz, Int.toNat_natCast]) | ((first | (refine hR _ ?_; clear hR R) | refine awp_skip ?_ | refine awp_exit ?_ | refine awp_ret ?_); try simp only [thenA, inBlockA, reduceIte, reduceCtorEq, Nat.reduceEqDiff, if_false, if_true]) | ((first | refine hK _ ?_ | (clear hK K; first | refine hK _ ?_ | (clear hK K; first | refine hK _ ?_ | (clear hK K; first | refine hK _ ?_ | (clear hK K; refine hK _ ?_))))); clear hK K) | refine awp_true rfl rfl ?_ | refine awp_false rfl rfl ?_ | refine awp_block ?_ | refine And.intro (by first | ((repeat' first | omega | exact trivial | rfl | assumption | (intro a e; subst e; rfl) | exact map_sz fun a => (by simp only [go_sem]) | refine And.intro ?_ ?_); done) | fail) ?_ | fail)
        · exact (by repeat (first | exact Keep.of (by assumption) | exact Keep.rfl' _ _ | refine Keep.set ?_ (by rfl) | refine Keep.tick ?_))
        · rw [hge', List.drop_length, List.any_nil, Bool.or_false] at hcur
          rw [hcur]; simp [grYes, hv, G]
        · simp only [go_sem, t14]
  · have hv'' : (ps[i].v == 0) = false := by simpa using hv
    repeat' (first | refine fin _ ?_ false ?_ ?_ rfl | refine awp_seq_k fun K hK => ?_ | ((first | refine awp_region_k (by kernel_rfl) fun R hR => ?_ | refine awp_draw mixed (by kernel_rfl) (by kernel_rfl) fun R hR => ?_); simp only [go_sem, s12, hx, hv'']) | ((first | (refine hR _ ?_; clear hR R) | refine awp_skip ?_ | refine awp_exit ?_ | refine awp_ret ?_); try simp only [thenA, inBlockA, reduceIte, reduceCtorEq, Nat.reduceEqDiff, if_false, if_true]) | ((first | refine hK _ ?_ | (clear hK K; first | refine hK _ ?_ | (clear hK K; first | refine hK _ ?_ | (clear hK K; first | refine hK _ ?_ | (clear hK K; refine hK _ ?_))))); clear hK K) | refine awp_true rfl rfl ?_ | refine awp_false rfl rfl ?_ | refine awp_block ?_ | refine And.intro (by first | ((repeat' first | omega | exact trivial | rfl | assumption | (intro a e; subst e; rfl) | exact map_sz fun a => (by simp only [go_sem]) | refine And.intro ?_ ?_); done) | fail) ?_ | fail)
    · exact (by repeat (first | exact Keep.of (by assumption) | exact Keep.rfl' _ _ | refine Keep.set ?_ (by rfl) | refine Keep.tick ?_))
    · simp [grYes, hv'']
    · simp only [go_sem, h14]
end
end Go.Proofs.Ytmeekpinkfpnhaa
namespace Go.Proofs.Ytmeekpinkfpnhaa
open Go.RowKit
theorem gr_len {s t : Tm} {i j : Nat} (har : Arit (pn s 0) (pn t 0)) (hi : i < (parts s).length) (hj : j < (parts t).length) (hi' : i < (argsOf s).length) (hj' : j < (argsOf t).length) (hv : (parts s)[i].v = 0) (hv' : (parts t)[j].v = 0) (hf : (parts s)[i].f = (parts t)[j].f) : (argsOf s)[i].length = (argsOf t)[j].length := by
  have hi2 : i < (pn s 0).length := by rw [pn_len]; exact hi
  have hj2 : j < (pn t 0).length := by rw [pn_len]; exact hj
  have e1 : (parts s)[i] = (pn s 0)[i].1 := by simp [← pn_fst s 0]
  have e2 : (parts t)[j] = (pn t 0)[j].1 := by simp [← pn_fst t 0]
  have := har (pn s 0)[i] (List.getElem_mem hi2) (pn t 0)[j] (List.getElem_mem hj2) (by rw [← e1]; omega) (by rw [← e2]; omega) (by rw [← e1, ← e2]; exact hf)
  simpa [argsOf] using this
theorem gr_G {s t : Tm} {i j : Nat} (hi : i < (parts s).length) (hj : j < (parts t).length) (hi' : i < (argsOf s).length) (hj' : j < (argsOf t).length) (hvs : ∀ u ∈ parts s, 0 ≤ u.v) (hvt : ∀ u ∈ parts t, 0 ≤ u.v) :
    grG (sameN (parts s) (parts t)) (gtN (parts s) (parts t)) (parts s)[i].v (parts s)[i].f (argsOf s)[i] (parts t)[j].v (parts t)[j].f (argsOf t)[j] i j = gtN (parts s) (parts t) (i, j) := by
  have := grN_right hi hj (hvs _ (List.getElem_mem _)) (hvt _ (List.getElem_mem _))
  unfold grN at this
  rw [getD_at hi, getD_at hj, getD_at hi', getD_at hj'] at this
  exact this
structure GIn (ps pt : List Tm) (la lb : List (List Int)) (T : Nm) (nm : Nat → Nm) (i j : Nat) (k : Nat) (h0 : Heap) (σ : St) : Prop where
  s5 : σ.t 5 = .d (.sl (ps.map tmDV))
  s6 : σ.t 6 = .d (.sl (pt.map tmDV))
  s7 : σ.t 7 = .d (.sl (la.map gI))
  s8 : σ.t 8 = .d (.sl (lb.map gI))
  s9 : σ.t 9 = .arr T 0 ps.length
  s10 : σ.t 10 = iA i
  s11 : σ.t 11 = iA j
  hT : σ.h T = some (.cells 94 (tabA nm ps.length pt.length (i + 1)))
  hr : ∀ a, a < i → σ.h (nm a) = some (.cells 4 (rowA ps pt a pt.length))
  hi : σ.h (nm i) = some (.cells 4 (rowA ps pt i j))
  fr : Fr k h0 σ.h
  kT : T.1 < σ.k
  knm : ∀ a, a ≤ i → k ≤ (nm a).1 ∧ (nm a).1 < σ.k ∧ nm a ≠ T
  kne : ∀ a, a < i → nm a ≠ nm i
  kk : k < σ.k
structure GOut (ps pt : List Tm) (la lb : List (List Int)) (T : Nm) (nm : Nat → Nm) (i : Nat) (k : Nat) (h0 : Heap) (σ : St) : Prop where
  s5 : σ.t 5 = .d (.sl (ps.map tmDV))
  s6 : σ.t 6 = .d (.sl (pt.map tmDV))
  s7 : σ.t 7 = .d (.sl (la.map gI))
  s8 : σ.t 8 = .d (.sl (lb.map gI))
  s9 : σ.t 9 = .arr T 0 ps.length
  s10 : σ.t 10 = iA i
  hT : σ.h T = some (.cells 94 (tabA nm ps.length pt.length i))
  hr : ∀ a, a < i → σ.h (nm a) = some (.cells 4 (rowA ps pt a pt.length))
  fr : Fr k h0 σ.h
  kT : T.1 < σ.k
  knm : ∀ a, a < i → k ≤ (nm a).1 ∧ (nm a).1 < σ.k ∧ nm a ≠ T
  kk : k < σ.k
  le : i ≤ ps.length
def GreSpec (s t : Tm) : Prop := Tri Try.prog 16 [.d (tmDV s), .d (tmDV t)] (pure' (bA (gt s t)))
set_option maxRecDepth 20000 in
theorem greaterOf_tri (s t : Tm) (hfs : s.fits) (hft : t.fits) (hs : (parts s).length ≤ 1000000) (ht : (parts t).length ≤ 1000000) (har : Arit (pn s 0) (pn t 0)) (hvs : ∀ u ∈ parts s, 0 ≤ u.v) (hvt : ∀ u ∈ parts t, 0 ≤ u.v) : GreSpec s t := by
  unfold GreSpec
  refine tri_enter Try.func16 rfl Try.ntmps16 (by simp only [List.length_cons, List.length_nil]; omega) fun w0 h0 k hrd hwr => ?_
  have hls := argsOf_len s
  have hlt := argsOf_len t
  repeat' (first | refine awp_seq_k fun K hK => ?_ | ((first | refine awp_region_k (by kernel_rfl) fun R hR => ?_ | refine awp_draw mixed (by kernel_rfl) (by kernel_rfl) fun R hR => ?_); simp only [go_sem, List.flatten_replicate_singleton]) | ((first | (refine hR _ ?_; clear hR R) | refine awp_skip ?_ | refine awp_exit ?_ | refine awp_ret ?_); try simp only [thenA, inBlockA, reduceIte, reduceCtorEq, Nat.reduceEqDiff, if_false, if_true]) | ((first | refine hK _ ?_ | (clear hK K; first | refine hK _ ?_ | (clear hK K; first | refine hK _ ?_ | (clear hK K; first | refine hK _ ?_ | (clear hK K; refine hK _ ?_))))); clear hK K) | refine awp_true rfl rfl ?_ | refine awp_false rfl rfl ?_ | refine awp_block ?_ | ((first | refine CallK.pure (enter63) (partsOf_data s hfs (by omega)) ?_ ?_ | refine CallD.pure (enter63) (partsOf_data s hfs (by omega)) ?_ ?_); (focus first | ((repeat (first | exact trivial | refine ⟨(by first | exact Or.inl rfl | exact Or.inr rfl), ?_⟩)); done) | (simp only [coL, AV.dat, true_or, or_true, AV.d.injEq, go_sem]; done)); simp only [go_sem, List.flatten_replicate_singleton]) | ((first | refine CallK.pure (enter63) (partsOf_data t hft (by omega)) ?_ ?_ | refine CallD.pure (enter63) (partsOf_data t hft (by omega)) ?_ ?_); (focus first | ((repeat (first | exact trivial | refine ⟨(by first | exact Or.inl rfl | exact Or.inr rfl), ?_⟩)); done) | (simp only [coL, AV.dat, true_or, or_true, AV.d.injEq, go_sem]; done)); simp only [go_sem, List.flatten_replicate_singleton]) | ((first | refine CallK.pure (enter64) (argsOf_tri s hs) ?_ ?_ | refine CallD.pure (enter64) (argsOf_tri s hs) ?_ ?_); (focus first | ((repeat (first | exact trivial | refine ⟨(by first | exact Or.inl rfl | exact Or.inr rfl), ?_⟩)); done) | (simp only [coL, AV.dat, true_or, or_true, AV.d.injEq, go_sem]; done)); simp only [go_sem, List.flatten_replicate_singleton]) | ((first | refine CallK.pure (enter64) (argsOf_tri t ht) ?_ ?_ | refine CallD.pure (enter64) (argsOf_tri t ht) ?_ ?_); (focus first | ((repeat (first | exact trivial | refine ⟨(by first | exact Or.inl rfl | exact Or.inr rfl), ?_⟩)); done) | (simp only [coL, AV.dat, true_or, or_true, AV.d.injEq, go_sem]; done)); simp only [go_sem, List.flatten_replicate_singleton]) | refine And.intro (by first | ((repeat' first | omega | exact trivial | rfl | assumption | (intro a e; subst e; rfl) | exact map_sz fun a => (by simp only [go_sem]) | refine And.intro ?_ ?_); done) | fail) ?_ | fail)
  refine awp_loop (fun σ => ∃ (i : Nat) (nm : Nat → Nm), GOut (parts s) (parts t) (argsOf s) (argsOf t) (k + 1 + 1 + 1, 2) nm i k h0 σ) (fun σ => (parts s).length - (intOf' (σ.t 10)).toNat) ?_ ?_
  · refine ⟨0, fun _ => (k, 0), ?_, ?_, ?_, ?_, ?_, ?_, ?_, fun a ha => absurd ha (Nat.not_lt_zero _), ?_, ?_, fun a ha => absurd ha (Nat.not_lt_zero _), ?_, Nat.zero_le _⟩
    all_goals simp only [go_sem, Int.toNat_natCast]
    · rfl
    · rw [tabA_0 (fun _ => (k, 0)) _ (parts t).length]
    · exact (by repeat (first | exact Fr.rfl' _ _ | assumption | refine Fr.updk ?_ (by omega) _))
    · omega
  · rintro σ ⟨i, nm, s5, s6, s7, s8, s9, s10, hT, hr, hfr, hkT, hknm, hkk, hile⟩
    rcases Nat.lt_or_ge i (parts s).length with hlt | hge
    · have hz : (i : Int) < ((parts s).length : Int) := by omega
      have hTs := tabA_set (m := (parts t).length) (nm := nm) (σ.k + 1, 4) hlt
      simp only at hkT
      have hne := ltne hkT
      repeat' (first | refine awp_seq_k fun K hK => ?_ | ((first | refine awp_region_k (by kernel_rfl) fun R hR => ?_ | refine awp_draw mixed (by kernel_rfl) (by kernel_rfl) fun R hR => ?_); simp only [go_sem, s5, s6, s9, s10, hT, hz, tabA_len, hTs, hne, Int.toNat_natCast, Nat.mul_one, List.flatten_replicate_singleton, rowA_0 (parts s) (parts t) i]) | ((first | (refine hR _ ?_; clear hR R) | refine awp_skip ?_ | refine awp_exit ?_ | refine awp_ret ?_); try simp only [thenA, inBlockA, reduceIte, reduceCtorEq, Nat.reduceEqDiff, if_false, if_true]) | ((first | refine hK _ ?_ | (clear hK K; first | refine hK _ ?_ | (clear hK K; first | refine hK _ ?_ | (clear hK K; first | refine hK _ ?_ | (clear hK K; refine hK _ ?_))))); clear hK K) | refine awp_true rfl rfl ?_ | refine awp_false rfl rfl ?_ | refine awp_block ?_ | refine And.intro (by first | ((repeat' first | omega | exact trivial | rfl | assumption | (intro a e; subst e; rfl) | exact map_sz fun a => (by simp only [go_sem]) | refine And.intro ?_ ?_); done) | fail) ?_ | fail)
      have hnmT : ∀ a, a < i → ¬ (nm a = (k + 1 + 1 + 1, 2)) := fun a ha => (hknm a ha).2.2
      have hnmk : ∀ a, a < i → ¬ (nm a = (σ.k + 1, 4)) := fun a ha e => by have := (hknm a ha).2.1; rw [e] at this; simp only at this; omega
      obtain ⟨nm', hnm'⟩ : ∃ nm' : Nat → Nm, nm' = fun a => if a = i then (σ.k + 1, 4) else nm a := ⟨_, rfl⟩
      have hni : nm' i = (σ.k + 1, 4) := by rw [hnm']; simp
      have hna : ∀ a, a < i → nm' a = nm a := fun a ha => by rw [hnm']; simp [show ¬ a = i by omega]
      refine awp_loop (fun τ => ∃ j, j ≤ (parts t).length ∧ GIn (parts s) (parts t) (argsOf s) (argsOf t) (k + 1 + 1 + 1, 2) nm' i j k h0 τ) (fun τ => (parts t).length - (intOf' (τ.t 11)).toNat) ?_ ?_
      · refine ⟨0, Nat.zero_le _, ?_, ?_, ?_, ?_, ?_, ?_, ?_, ?_, fun a ha => ?_, ?_, ?_, ?_, fun a ha => ?_, fun a ha => ?_, ?_⟩
        case refine_8 => simp only [go_sem, ← hnm']
        case refine_9 => rw [hna a ha]; simp only [go_sem, hnmT a ha, hnmk a ha, hr a ha]
        case refine_10 => rw [hni]; simp only [go_sem, hne]
        case refine_11 => exact (by repeat (first | exact Fr.rfl' _ _ | assumption | refine Fr.updk ?_ (by omega) _))
        case refine_12 => simp only [go_sem]; omega
        case refine_13 =>
          rcases Nat.lt_or_ge a i with h | h
          · rw [hna a h]; obtain ⟨q1, q2, q3⟩ := hknm a h; exact ⟨q1, by simp only [go_sem]; omega, q3⟩
          · obtain rfl : a = i := by omega
            rw [hni]; exact ⟨by simp only [go_sem]; omega, by simp only [go_sem], by simp only [go_sem, hne]⟩
        case refine_14 => rw [hna a ha, hni]; exact hnmk a ha
        case refine_15 => simp only [go_sem]; omega
        case refine_7 => simp only [go_sem]; rfl
        all_goals simp only [go_sem, s5, s6, s7, s8, s9, s10]
      · rintro τ ⟨j, hj0, u5, u6, u7, u8, u9, u10, u11, uT, ur, ui, uf, ukT, uknm, ukne, ukk⟩
        rcases Nat.lt_or_ge j (parts t).length with hj | hj
        · have hz' : (j : Int) < ((parts t).length : Int) := by omega
          have f3 : ((parts s).map tmDV).getD i default = tmDV (parts s)[i] := nth_map tmDV hlt _
          have f4 : ((parts t).map tmDV).getD j default = tmDV (parts t)[j] := nth_map tmDV hj _
          have n1 : ∀ a, a ≤ i → ∀ d e, ¬ (nm' a = (τ.k + d, e)) := fun a ha d e h => by have := (uknm a ha).2.1; rw [h] at this; simp only at this; omega
          have n2 : ∀ a, a ≤ i → ¬ (nm' a = (k + 1 + 1 + 1, 2)) := fun a ha => (uknm a ha).2.2
          simp only at ukT
          have hne' := ltne ukT
          have hi' : i < (argsOf s).length := by omega
          have hj' : j < (argsOf t).length := by omega
          repeat' (first | refine gre_yes hlt hj hi' hj' (fun e => n2 i (Nat.le_refl _) e.symm) ukne (fun n h => argsOf_nat s hi' h) (fun n h => argsOf_nat t hj' h) (argsOf_fits s hfs hi') (argsOf_fits t hft hj') ?_ ?_ (x := (τ.k + 1, 8)) (y := (τ.k + 1, 9)) (T := (k + 1 + 1 + 1, 2)) _ ?_ ?_ ?_ rfl rfl | refine awp_seq_k fun K hK => ?_ | ((first | refine awp_region_k (by kernel_rfl) fun R hR => ?_ | refine awp_draw mixed (by kernel_rfl) (by kernel_rfl) fun R hR => ?_); simp only [go_sem, u5, u6, u10, u11, hz', f3, f4, hne', Int.toNat_natCast]) | ((first | (refine hR _ ?_; clear hR R) | refine awp_skip ?_ | refine awp_exit ?_ | refine awp_ret ?_); try simp only [thenA, inBlockA, reduceIte, reduceCtorEq, Nat.reduceEqDiff, if_false, if_true]) | ((first | refine hK _ ?_ | (clear hK K; first | refine hK _ ?_ | (clear hK K; first | refine hK _ ?_ | (clear hK K; first | refine hK _ ?_ | (clear hK K; refine hK _ ?_))))); clear hK K) | refine awp_true rfl rfl ?_ | refine awp_false rfl rfl ?_ | refine awp_block ?_ | refine And.intro (by first | ((repeat' first | omega | exact trivial | rfl | assumption | (intro a e; subst e; rfl) | exact map_sz fun a => (by simp only [go_sem]) | refine And.intro ?_ ?_); done) | fail) ?_ | fail)
          · exact gr_len har hlt hj hi' hj'
          · exact gr_G hlt hj hi' hj' hvs hvt
          · refine ⟨?_, ?_, ?_, ?_, ?_, ?_, ?_, ?_, ?_, fun _ => ?_, fun _ => ?_, ?_, fun a ha => ?_, ?_⟩
            case refine_13 => simp only [go_sem, n1 a (by omega), n2 a (by omega), ur a ha]
            case refine_14 => simp only [go_sem, n1 i (by omega), n2 i (by omega), ui]
            all_goals simp only [go_sem, u5, u6, u7, u8, u9, u10, u11, uT, hne']
          · simp only [go_sem]
          · intro σ' hp
            obtain ⟨q1, q2, q3, q4⟩ := hp
            simp only [List.mem_cons, List.not_mem_nil, or_false, forall_eq_or_imp, forall_eq, go_sem, u5, u6, u7, u8, u9, u10, u11] at q1 q2 q3
            obtain ⟨v2, v3, v5, v6, v7, v8, v9, v10, v11⟩ := q1
            repeat' (first | refine awp_seq_k fun K hK => ?_ | ((first | refine awp_region_k (by kernel_rfl) fun R hR => ?_ | refine awp_draw mixed (by kernel_rfl) (by kernel_rfl) fun R hR => ?_); simp only [go_sem, v11]) | ((first | (refine hR _ ?_; clear hR R) | refine awp_skip ?_ | refine awp_exit ?_ | refine awp_ret ?_); try simp only [thenA, inBlockA, reduceIte, reduceCtorEq, Nat.reduceEqDiff, if_false, if_true]) | ((first | refine hK _ ?_ | (clear hK K; first | refine hK _ ?_ | (clear hK K; first | refine hK _ ?_ | (clear hK K; first | refine hK _ ?_ | (clear hK K; refine hK _ ?_))))); clear hK K) | refine awp_true rfl rfl ?_ | refine awp_false rfl rfl ?_ | refine awp_block ?_ | refine And.intro (by first | ((repeat' first | omega | exact trivial | rfl | assumption | (intro a e; subst e; rfl) | exact map_sz fun a => (by simp only [go_sem]) | refine And.intro ?_ ?_); done) | fail) ?_ | fail)
            refine ⟨⟨j + 1, hj, ?_, ?_, ?_, ?_, ?_, ?_, ?_, ?_, fun a ha => ?_, ?_, ?_, ?_, fun a ha => ?_, ukne, ?_⟩, ?_⟩
            case refine_8 => simp only [go_sem, q3 _ (fun e => n2 i (Nat.le_refl _) e.symm), hne', uT]
            case refine_9 => simp only [go_sem, q3 _ (ukne a ha), n1 a (Nat.le_of_lt ha), ur a ha]
            case refine_10 => exact q4
            case refine_11 =>
              intro x hx
              have h1 : ¬ x = nm' i := fun e => by have := (uknm i (Nat.le_refl _)).1; rw [e] at hx; omega
              have h2 : ∀ d e, ¬ x = (τ.k + d, e) := fun d e h => by rw [h] at hx; simp only at hx; omega
              simp only [go_sem, q3 x h1, h2, uf x hx]
            case refine_12 => show k + 1 + 1 + 1 < _; simp only [go_sem]; omega
            case refine_13 =>
              obtain ⟨g1, g2, g3⟩ := uknm a ha
              exact ⟨g1, by simp only [go_sem]; omega, g3⟩
            case refine_14 => simp only [go_sem]; omega
            case refine_15 => simp only [go_sem, u11]; omega
            all_goals simp only [go_sem, v5, v6, v7, v8, v9, v10]
            · rfl
        · have hje : j = (parts t).length := by omega
          have hz' : ¬ ((j : Int) < ((parts t).length : Int)) := by omega
          repeat' (first | refine awp_seq_k fun K hK => ?_ | ((first | refine awp_region_k (by kernel_rfl) fun R hR => ?_ | refine awp_draw mixed (by kernel_rfl) (by kernel_rfl) fun R hR => ?_); simp only [go_sem, u6, u10, u11, hz']) | ((first | (refine hR _ ?_; clear hR R) | refine awp_skip ?_ | refine awp_exit ?_ | refine awp_ret ?_); try simp only [thenA, inBlockA, reduceIte, reduceCtorEq, Nat.reduceEqDiff, if_false, if_true]) | ((first | refine hK _ ?_ | (clear hK K; first | refine hK _ ?_ | (clear hK K; first | refine hK _ ?_ | (clear hK K; first | refine hK _ ?_ | (clear hK K; refine hK _ ?_))))); clear hK K) | refine awp_true rfl rfl ?_ | refine awp_false rfl rfl ?_ | refine awp_block ?_ | refine And.intro (by first | ((repeat' first | omega | exact trivial | rfl | assumption | (intro a e; subst e; rfl) | exact map_sz fun a => (by simp only [go_sem]) | refine And.intro ?_ ?_); done) | fail) ?_ | fail)
          refine ⟨⟨i + 1, nm', ?_, ?_, ?_, ?_, ?_, ?_, ?_, fun a ha => ?_, ?_, ?_, fun a ha => ?_, ?_, hlt⟩, ?_⟩
          case refine_7 => simp only [go_sem, uT]
          case refine_8 =>
            rcases Nat.lt_or_ge a i with h | h
            · simp only [go_sem, ur a h]
            · obtain rfl : a = i := by omega
              rw [hje] at ui; simp only [go_sem, ui]
          case refine_9 => exact (by repeat (first | exact Fr.rfl' _ _ | assumption | refine Fr.updk ?_ (by omega) _))
          case refine_10 => show k + 1 + 1 + 1 < _; simp only [go_sem]; omega
          case refine_11 =>
            obtain ⟨g1, g2, g3⟩ := uknm a (by omega)
            exact ⟨g1, by simp only [go_sem]; omega, g3⟩
          case refine_12 => simp only [go_sem]; omega
          case refine_13 => simp only [go_sem, s10]; omega
          all_goals simp only [go_sem, u5, u6, u7, u8, u9, u10]
          · rfl
    · have hie : i = (parts s).length := by omega
      have hz : ¬ ((i : Int) < ((parts s).length : Int)) := by omega
      obtain ⟨p, hp⟩ : ∃ p, (parts s).length = p + 1 := ⟨(partsL s.us).length, by rw [parts_eq s]; simp⟩
      obtain ⟨q, hq⟩ : ∃ q, (parts t).length = q + 1 := ⟨(partsL t.us).length, by rw [parts_eq t]; simp⟩
      have e1 : ((parts s).length : Int) - 1 = (p : Int) := by omega
      have e2 : ((parts t).length : Int) - 1 = (q : Int) := by omega
      have e3 : (tabA nm (parts s).length (parts t).length i).getD p .junk = .arr (nm p) 0 (parts t).length := tabA_at (by omega) (by omega)
      have e4 : (rowA (parts s) (parts t) p (parts t).length).getD q .junk = bA (gtN (parts s) (parts t) (p, q)) := rowA_at (by omega) (Nat.le_refl _)
      have e5 := hr p (by omega)
      have e6 : gtN (parts s) (parts t) (p, q) = gt s t := by
        rw [gtN_at (a := p) (b := q) (by omega) (by omega)]
        congr 1
        · simp [parts_eq s, show p = (partsL s.us).length by rw [parts_eq s] at hp; simp at hp; exact hp.symm]
        · simp [parts_eq t, show q = (partsL t.us).length by rw [parts_eq t] at hq; simp at hq; exact hq.symm]
      repeat' (first | refine awp_seq_k fun K hK => ?_ | ((first | refine awp_region_k (by kernel_rfl) fun R hR => ?_ | refine awp_draw mixed (by kernel_rfl) (by kernel_rfl) fun R hR => ?_); simp only [go_sem, s5, s6, s9, s10, hT, hz, e1, e2, e3, e4, e5, e6, Int.toNat_natCast, tabA_len, rowA_len, Nat.mul_one]) | ((first | (refine hR _ ?_; clear hR R) | refine awp_skip ?_ | refine awp_exit ?_ | refine awp_ret ?_); try simp only [thenA, inBlockA, reduceIte, reduceCtorEq, Nat.reduceEqDiff, if_false, if_true]) | ((first | refine hK _ ?_ | (clear hK K; first | refine hK _ ?_ | (clear hK K; first | refine hK _ ?_ | (clear hK K; first | refine hK _ ?_ | (clear hK K; refine hK _ ?_))))); clear hK K) | refine awp_true rfl rfl ?_ | refine awp_false rfl rfl ?_ | refine awp_block ?_ | refine And.intro (by first | ((repeat' first | omega | exact trivial | rfl | assumption | (intro a e; subst e; rfl) | exact map_sz fun a => (by simp only [go_sem]) | refine And.intro ?_ ?_); done) | fail) ?_ | fail)
      (first | refine ret_pure ?_ ?_ ?_ | refine ret_ro ?_ ?_ ?_); focus exact (by simp only [Try.results16, resOkL, resOk, Try.ntmps16, List.toList_toArray]; first | decide | (simp only [go_sem]; done) | (simp only [go_sem]; and_intros <;> first | omega | rfl | decide))
      rotate_left; focus exact (by repeat (first | exact Fr.rfl' _ _ | assumption | refine Fr.updk ?_ (by omega) _))
      simp only [resA, resV, Try.results16, go_sem]
      all_goals try (first | exact Co.t2 (.dat rfl) (.dat rfl) | exact Co.t3 (.dat rfl) (.dat rfl) (.dat rfl))
      exact .dat rfl
end Go.Proofs.Ytmeekpinkfpnhaa
namespace Go.Proofs.Ytmeekpinkfpnhaa
open Go.RowKit
theorem step_size {rs : List Rl} {t : Tm} (ht : t.size ≤ 4000000) : (stepG rs t).1.size ≤ 4000000 := by
  unfold stepG
  cases foundG rs t [] with
  | none => exact ht
  | some w =>
    obtain ⟨p, r, b⟩ := w
    simp only
    split
    · simp [Tm.size, Tm.size.sizes]
    · split
      · simp [Tm.size, Tm.size.sizes]
      · rename_i h
        have := count_cap.1 (Int.not_lt.1 h)
        simp only; omega
def stpAns (g : List Int) (rs : List Rl) (t : Tm) : Tm × Bool × Int := if rdyG g rs t ≠ 0 then (tm0, false, rdyG g rs t) else stepG rs t
def nrmAns (g : List Int) (rs : List Rl) (t : Tm) : Tm × Int × Int := if rdyG g rs t ≠ 0 then (tm0, 0, rdyG g rs t) else normG rs 300 t 0
theorem rdy_small {g : List Int} {rs : List Rl} {t : Tm} (h : rdyG g rs t = 0) : rlOk g rs = 0 ∧ own g t = 0 ∧ ∀ r ∈ rs, r.l.size ≤ 4000000 ∧ r.r.size ≤ 4000000 := by
  unfold rdyG at h
  by_cases h1 : rlOk g rs = 0
  · rw [if_neg (by simp [h1])] at h
    refine ⟨h1, h, fun r hr => ?_⟩
    obtain ⟨_, _, h3⟩ := rlOk_all h1
    obtain ⟨a, b, _⟩ := h3 r hr
    have := own_parts a
    have := own_parts b
    have := parts_len r.l
    have := parts_len r.r
    omega
  · rw [if_pos h1] at h; exact absurd h h1
set_option maxHeartbeats 1000000 in
set_option maxRecDepth 20000 in
theorem rwStep_tri (g : List Int) (rs : List Rl) (hrl : rs.length ≤ 4000000) (t : Tm) (ht : t.size ≤ 4000000) : Tri Try.prog 39 [.d (sgDV g), .d (rlsDV rs), .d (tmDV t)] (pure' (.tup [.d (tmDV (stpAns g rs t).1), bA (stpAns g rs t).2.1, iA (stpAns g rs t).2.2])) := by
  have hrd' := ready_tri g rs hrl t
  refine tri_enter Try.func39 rfl Try.ntmps39 (by simp only [List.length_cons, List.length_nil]; omega) fun w0 h0 k hrd hwr => ?_
  unfold stpAns
  cases hs : (rdyG g rs t != 0) with
  | true =>
    rw [if_pos (by simpa using hs)]
    repeat' (first | refine awp_seq_k fun K hK => ?_ | ((first | refine awp_region_k (by kernel_rfl) fun R hR => ?_ | refine awp_draw mixed (by kernel_rfl) (by kernel_rfl) fun R hR => ?_); simp only [go_sem, hs]) | ((first | (refine hR _ ?_; clear hR R) | refine awp_skip ?_ | refine awp_exit ?_ | refine awp_ret ?_); try simp only [thenA, inBlockA, reduceIte, reduceCtorEq, Nat.reduceEqDiff, if_false, if_true]) | ((first | refine hK _ ?_ | (clear hK K; first | refine hK _ ?_ | (clear hK K; first | refine hK _ ?_ | (clear hK K; first | refine hK _ ?_ | (clear hK K; refine hK _ ?_))))); clear hK K) | refine awp_true rfl rfl ?_ | refine awp_false rfl rfl ?_ | refine awp_block ?_ | ((first | refine CallK.pure (enter96) (hrd') ?_ ?_ | refine CallD.pure (enter96) (hrd') ?_ ?_); (focus first | ((repeat (first | exact trivial | refine ⟨(by first | exact Or.inl rfl | exact Or.inr rfl), ?_⟩)); done) | (simp only [coL, AV.dat, true_or, or_true, AV.d.injEq, go_sem]; done)); simp only [go_sem, hs]) | refine And.intro (by first | ((repeat' first | omega | exact trivial | rfl | assumption | (intro a e; subst e; rfl) | exact map_sz fun a => (by simp only [go_sem]) | refine And.intro ?_ ?_); done) | fail) ?_ | fail)
    (first | refine ret_pure ?_ ?_ ?_ | refine ret_ro ?_ ?_ ?_); focus exact (by simp only [Try.results39, resOkL, resOk, Try.ntmps39, List.toList_toArray]; first | decide | (simp only [go_sem]; done) | (simp only [go_sem]; and_intros <;> first | omega | rfl | decide))
    rotate_left; focus exact (by repeat (first | exact Fr.rfl' _ _ | assumption | refine Fr.updk ?_ (by omega) _))
    simp only [resA, resV, Try.results39, go_sem]
    all_goals try (first | exact Co.t2 (.dat rfl) (.dat rfl) | exact Co.t3 (.dat rfl) (.dat rfl) (.dat rfl))
    all_goals exact .t3 (co_tm rfl) (.dat rfl) (.dat rfl)
  | false =>
    have h0 : rdyG g rs t = 0 := by simpa using hs
    rw [if_neg (by simpa using hs)]
    obtain ⟨k1, k2, k3⟩ := rdy_small h0
    have hst := step_tri rs hrl k3 t ht
    have hsz := step_size (rs := rs) ht
    generalize stepG rs t = r at *
    have hcp := copied_tri r.1 hsz
    repeat' (first | refine awp_seq_k fun K hK => ?_ | ((first | refine awp_region_k (by kernel_rfl) fun R hR => ?_ | refine awp_draw mixed (by kernel_rfl) (by kernel_rfl) fun R hR => ?_); simp only [go_sem, hs]) | ((first | (refine hR _ ?_; clear hR R) | refine awp_skip ?_ | refine awp_exit ?_ | refine awp_ret ?_); try simp only [thenA, inBlockA, reduceIte, reduceCtorEq, Nat.reduceEqDiff, if_false, if_true]) | ((first | refine hK _ ?_ | (clear hK K; first | refine hK _ ?_ | (clear hK K; first | refine hK _ ?_ | (clear hK K; first | refine hK _ ?_ | (clear hK K; refine hK _ ?_))))); clear hK K) | refine awp_true rfl rfl ?_ | refine awp_false rfl rfl ?_ | refine awp_block ?_ | ((first | refine CallK.pure (enter96) (hrd') ?_ ?_ | refine CallD.pure (enter96) (hrd') ?_ ?_ | refine CallK.pure (enter97) (hst) ?_ ?_ | refine CallD.pure (enter97) (hst) ?_ ?_ | refine CallK.pure (enter98) (hcp) ?_ ?_ | refine CallD.pure (enter98) (hcp) ?_ ?_); (focus first | ((repeat (first | exact trivial | refine ⟨(by first | exact Or.inl rfl | exact Or.inr rfl), ?_⟩)); done) | (simp only [coL, AV.dat, true_or, or_true, AV.d.injEq, go_sem]; done)); simp only [go_sem, hs]) | refine And.intro (by first | ((repeat' first | omega | exact trivial | rfl | assumption | (intro a e; subst e; rfl) | exact map_sz fun a => (by simp only [go_sem]) | refine And.intro ?_ ?_); done) | fail) ?_ | fail)
    (first | refine ret_pure ?_ ?_ ?_ | refine ret_ro ?_ ?_ ?_); focus exact (by simp only [Try.results39, resOkL, resOk, Try.ntmps39, List.toList_toArray]; first | decide | (simp only [go_sem]; done) | (simp only [go_sem]; and_intros <;> first | omega | rfl | decide))
    rotate_left; focus exact (by repeat (first | exact Fr.rfl' _ _ | assumption | refine Fr.updk ?_ (by omega) _))
    simp only [resA, resV, Try.results39, go_sem]
    all_goals try (first | exact Co.t2 (.dat rfl) (.dat rfl) | exact Co.t3 (.dat rfl) (.dat rfl) (.dat rfl))
    all_goals exact .t3 (co_tm' rfl) (.dat rfl) (.dat rfl)
theorem normG_eq (rs : List Rl) (k : Nat) (t : Tm) (n : Int) : normG rs k t n = if (stepG rs t).2.2 ≠ 0 then (tm0, 0, (stepG rs t).2.2) else if (stepG rs t).2.1 = false then (t, n, 0) else if k = 0 then (tm0, 0, 2) else normG rs (k - 1) (stepG rs t).1 (n + 1) := by
  cases k with
  | zero => rw [normG]; simp
  | succ k => rw [normG]; simp
set_option maxHeartbeats 2000000 in
set_option maxRecDepth 20000 in
theorem rwNormal_tri (g : List Int) (rs : List Rl) (hrl : rs.length ≤ 4000000) (t : Tm) (ht : t.size ≤ 4000000) : Tri Try.prog 40 [.d (sgDV g), .d (rlsDV rs), .d (tmDV t)] (pure' (.tup [.d (tmDV (nrmAns g rs t).1), iA (nrmAns g rs t).2.1, iA (nrmAns g rs t).2.2])) := by
  have hrd' := ready_tri g rs hrl t
  refine tri_enter Try.func40 rfl Try.ntmps40 (by simp only [List.length_cons, List.length_nil]; omega) fun w0 h0 k hrd hwr => ?_
  unfold nrmAns
  cases hs : (rdyG g rs t != 0) with
  | true =>
    rw [if_pos (by simpa using hs)]
    repeat' (first | refine awp_seq_k fun K hK => ?_ | ((first | refine awp_region_k (by kernel_rfl) fun R hR => ?_ | refine awp_draw mixed (by kernel_rfl) (by kernel_rfl) fun R hR => ?_); simp only [go_sem, hs]) | ((first | (refine hR _ ?_; clear hR R) | refine awp_skip ?_ | refine awp_exit ?_ | refine awp_ret ?_); try simp only [thenA, inBlockA, reduceIte, reduceCtorEq, Nat.reduceEqDiff, if_false, if_true]) | ((first | refine hK _ ?_ | (clear hK K; first | refine hK _ ?_ | (clear hK K; first | refine hK _ ?_ | (clear hK K; first | refine hK _ ?_ | (clear hK K; refine hK _ ?_))))); clear hK K) | refine awp_true rfl rfl ?_ | refine awp_false rfl rfl ?_ | refine awp_block ?_ | ((first | refine CallK.pure (enter96) (hrd') ?_ ?_ | refine CallD.pure (enter96) (hrd') ?_ ?_); (focus first | ((repeat (first | exact trivial | refine ⟨(by first | exact Or.inl rfl | exact Or.inr rfl), ?_⟩)); done) | (simp only [coL, AV.dat, true_or, or_true, AV.d.injEq, go_sem]; done)); simp only [go_sem, hs]) | refine And.intro (by first | ((repeat' first | omega | exact trivial | rfl | assumption | (intro a e; subst e; rfl) | exact map_sz fun a => (by simp only [go_sem]) | refine And.intro ?_ ?_); done) | fail) ?_ | fail)
    (first | refine ret_pure ?_ ?_ ?_ | refine ret_ro ?_ ?_ ?_); focus exact (by simp only [Try.results40, resOkL, resOk, Try.ntmps40, List.toList_toArray]; first | decide | (simp only [go_sem]; done) | (simp only [go_sem]; and_intros <;> first | omega | rfl | decide))
    rotate_left; focus exact (by repeat (first | exact Fr.rfl' _ _ | assumption | refine Fr.updk ?_ (by omega) _))
    simp only [resA, resV, Try.results40, go_sem]
    all_goals try (first | exact Co.t2 (.dat rfl) (.dat rfl) | exact Co.t3 (.dat rfl) (.dat rfl) (.dat rfl))
    all_goals exact .t3 (co_tm rfl) (.dat rfl) (.dat rfl)
  | false =>
    have h0' : rdyG g rs t = 0 := by simpa using hs
    rw [if_neg (by simpa using hs)]
    obtain ⟨k1, k2, k3⟩ := rdy_small h0'
    repeat' (first | refine awp_seq_k fun K hK => ?_ | ((first | refine awp_region_k (by kernel_rfl) fun R hR => ?_ | refine awp_draw mixed (by kernel_rfl) (by kernel_rfl) fun R hR => ?_); simp only [go_sem, hs]) | ((first | (refine hR _ ?_; clear hR R) | refine awp_skip ?_ | refine awp_exit ?_ | refine awp_ret ?_); try simp only [thenA, inBlockA, reduceIte, reduceCtorEq, Nat.reduceEqDiff, if_false, if_true]) | ((first | refine hK _ ?_ | (clear hK K; first | refine hK _ ?_ | (clear hK K; first | refine hK _ ?_ | (clear hK K; first | refine hK _ ?_ | (clear hK K; refine hK _ ?_))))); clear hK K) | refine awp_true rfl rfl ?_ | refine awp_false rfl rfl ?_ | refine awp_block ?_ | ((first | refine CallK.pure (enter96) (hrd') ?_ ?_ | refine CallD.pure (enter96) (hrd') ?_ ?_); (focus first | ((repeat (first | exact trivial | refine ⟨(by first | exact Or.inl rfl | exact Or.inr rfl), ?_⟩)); done) | (simp only [coL, AV.dat, true_or, or_true, AV.d.injEq, go_sem]; done)); simp only [go_sem, hs]) | refine And.intro (by first | ((repeat' first | omega | exact trivial | rfl | assumption | (intro a e; subst e; rfl) | exact map_sz fun a => (by simp only [go_sem]) | refine And.intro ?_ ?_); done) | fail) ?_ | fail)
    refine awp_loop (fun σ => ∃ (n : Nat) (x : Tm), σ.t 1 = .d (rlsDV rs) ∧ σ.t 5 = .ptr (k, 1) 0 ∧ σ.t 6 = .ptr (k, 2) 0 ∧ σ.t 10 = iA n ∧ σ.h (k, 1) = some (.cells 27 [iA x.v, iA x.f, .d (.sl (x.us.map tmDV))]) ∧ σ.h (k, 2) = some (.cells 27 [iA 0, iA 0, .nil]) ∧
      Fr k h0 σ.h ∧ k < σ.k ∧ n ≤ 300 ∧ x.size ≤ 4000000 ∧ normG rs (300 - n) x n = normG rs 300 t 0) (fun σ => 300 - (intOf' (σ.t 10)).toNat) ?_ ?_
    · refine ⟨0, t, ?_⟩
      simp only [go_sem]
      and_intros; all_goals try (first | rfl | omega | assumption | ((repeat (first | exact Fr.rfl' _ _ | assumption | refine Fr.updk ?_ (by omega) _)); done))
    · rintro σ ⟨n, x, s1, s5, s6, s10, sh1, sh2, hF, hk, hn, hx, hv⟩
      have hne := ltne hk
      have hst := step_tri rs hrl k3 x hx
      have hsz := step_size (rs := rs) hx
      have hcp := copied_tri x hx
      rw [normG_eq] at hv
      generalize stepG rs x = r at *
      cases h1 : (r.2.2 != 0) with
      | true =>
        rw [if_pos (by simpa using h1)] at hv
        repeat' (first | refine awp_seq_k fun K hK => ?_ | ((first | refine awp_region_k (by kernel_rfl) fun R hR => ?_ | refine awp_draw mixed (by kernel_rfl) (by kernel_rfl) fun R hR => ?_); simp only [go_sem, s1, s5, s6, s10, sh1, sh2, hne, h1]) | ((first | (refine hR _ ?_; clear hR R) | refine awp_skip ?_ | refine awp_exit ?_ | refine awp_ret ?_); try simp only [thenA, inBlockA, reduceIte, reduceCtorEq, Nat.reduceEqDiff, if_false, if_true]) | ((first | refine hK _ ?_ | (clear hK K; first | refine hK _ ?_ | (clear hK K; first | refine hK _ ?_ | (clear hK K; first | refine hK _ ?_ | (clear hK K; refine hK _ ?_))))); clear hK K) | refine awp_true rfl rfl ?_ | refine awp_false rfl rfl ?_ | refine awp_block ?_ | ((first | refine CallK.pure (enter97) (hst) ?_ ?_ | refine CallD.pure (enter97) (hst) ?_ ?_); (focus first | ((repeat (first | exact trivial | refine ⟨(by first | exact Or.inl rfl | exact Or.inr rfl), ?_⟩)); done) | (simp only [coL, AV.dat, true_or, or_true, AV.d.injEq, go_sem]; done)); simp only [go_sem, s1, s5, s6, s10, sh1, sh2, hne, h1]) | refine And.intro (by first | ((repeat' first | omega | exact trivial | rfl | assumption | (intro a e; subst e; rfl) | exact map_sz fun a => (by simp only [go_sem]) | refine And.intro ?_ ?_); done) | fail) ?_ | fail)
        rw [← hv]
        (first | refine ret_pure ?_ ?_ ?_ | refine ret_ro ?_ ?_ ?_); focus exact (by simp only [Try.results40, resOkL, resOk, Try.ntmps40, List.toList_toArray]; first | decide | (simp only [go_sem, s6, hne]; done) | (simp only [go_sem, s6, hne]; and_intros <;> first | omega | rfl | decide))
        rotate_left; focus exact (by repeat (first | exact Fr.rfl' _ _ | assumption | refine Fr.updk ?_ (by omega) _))
        simp only [resA, resV, Try.results40, go_sem, s6, hne]
        all_goals try (first | exact Co.t2 (.dat rfl) (.dat rfl) | exact Co.t3 (.dat rfl) (.dat rfl) (.dat rfl))
        all_goals exact .t3 (co_tm rfl) (.dat rfl) (.dat rfl)
      | false =>
        rw [if_neg (by simpa using h1)] at hv
        cases h2 : r.2.1 with
        | false =>
          rw [h2, if_pos rfl] at hv
          repeat' (first | refine awp_seq_k fun K hK => ?_ | ((first | refine awp_region_k (by kernel_rfl) fun R hR => ?_ | refine awp_draw mixed (by kernel_rfl) (by kernel_rfl) fun R hR => ?_); simp only [go_sem, s1, s5, s6, s10, sh1, sh2, hne, h1, h2]) | ((first | (refine hR _ ?_; clear hR R) | refine awp_skip ?_ | refine awp_exit ?_ | refine awp_ret ?_); try simp only [thenA, inBlockA, reduceIte, reduceCtorEq, Nat.reduceEqDiff, if_false, if_true]) | ((first | refine hK _ ?_ | (clear hK K; first | refine hK _ ?_ | (clear hK K; first | refine hK _ ?_ | (clear hK K; first | refine hK _ ?_ | (clear hK K; refine hK _ ?_))))); clear hK K) | refine awp_true rfl rfl ?_ | refine awp_false rfl rfl ?_ | refine awp_block ?_ | ((first | refine CallK.pure (enter97) (hst) ?_ ?_ | refine CallD.pure (enter97) (hst) ?_ ?_ | refine CallK.pure (enter98) (hcp) ?_ ?_ | refine CallD.pure (enter98) (hcp) ?_ ?_); (focus first | ((repeat (first | exact trivial | refine ⟨(by first | exact Or.inl rfl | exact Or.inr rfl), ?_⟩)); done) | (simp only [coL, AV.dat, true_or, or_true, AV.d.injEq, go_sem]; done)); simp only [go_sem, s1, s5, s6, s10, sh1, sh2, hne, h1, h2]) | refine And.intro (by first | ((repeat' first | omega | exact trivial | rfl | assumption | (intro a e; subst e; rfl) | exact map_sz fun a => (by simp only [go_sem]) | refine And.intro ?_ ?_); done) | fail) ?_ | fail)
          rw [← hv]
          (first | refine ret_pure ?_ ?_ ?_ | refine ret_ro ?_ ?_ ?_); focus exact (by simp only [Try.results40, resOkL, resOk, Try.ntmps40, List.toList_toArray]; first | decide | (simp only [go_sem, s6, hne]; done) | (simp only [go_sem, s6, hne]; and_intros <;> first | omega | rfl | decide))
          rotate_left; focus exact (by repeat (first | exact Fr.rfl' _ _ | assumption | refine Fr.updk ?_ (by omega) _))
          simp only [resA, resV, Try.results40, go_sem, s6, hne]
          all_goals try (first | exact Co.t2 (.dat rfl) (.dat rfl) | exact Co.t3 (.dat rfl) (.dat rfl) (.dat rfl))
          all_goals exact .t3 (co_tm' rfl) (.dat rfl) (.dat rfl)
        | true =>
          rw [h2, if_neg (by simp)] at hv
          cases h3 : ((n : Int) == 300) with
          | true =>
            have : n = 300 := by simp at h3; omega
            subst this
            rw [if_pos rfl] at hv
            repeat' (first | refine awp_seq_k fun K hK => ?_ | ((first | refine awp_region_k (by kernel_rfl) fun R hR => ?_ | refine awp_draw mixed (by kernel_rfl) (by kernel_rfl) fun R hR => ?_); simp only [go_sem, s1, s5, s6, s10, sh1, sh2, hne, h1, h2, h3]) | ((first | (refine hR _ ?_; clear hR R) | refine awp_skip ?_ | refine awp_exit ?_ | refine awp_ret ?_); try simp only [thenA, inBlockA, reduceIte, reduceCtorEq, Nat.reduceEqDiff, if_false, if_true]) | ((first | refine hK _ ?_ | (clear hK K; first | refine hK _ ?_ | (clear hK K; first | refine hK _ ?_ | (clear hK K; first | refine hK _ ?_ | (clear hK K; refine hK _ ?_))))); clear hK K) | refine awp_true rfl rfl ?_ | refine awp_false rfl rfl ?_ | refine awp_block ?_ | ((first | refine CallK.pure (enter97) (hst) ?_ ?_ | refine CallD.pure (enter97) (hst) ?_ ?_); (focus first | ((repeat (first | exact trivial | refine ⟨(by first | exact Or.inl rfl | exact Or.inr rfl), ?_⟩)); done) | (simp only [coL, AV.dat, true_or, or_true, AV.d.injEq, go_sem]; done)); simp only [go_sem, s1, s5, s6, s10, sh1, sh2, hne, h1, h2, h3]) | refine And.intro (by first | ((repeat' first | omega | exact trivial | rfl | assumption | (intro a e; subst e; rfl) | exact map_sz fun a => (by simp only [go_sem]) | refine And.intro ?_ ?_); done) | fail) ?_ | fail)
            rw [← hv]
            (first | refine ret_pure ?_ ?_ ?_ | refine ret_ro ?_ ?_ ?_); focus exact (by simp only [Try.results40, resOkL, resOk, Try.ntmps40, List.toList_toArray]; first | decide | (simp only [go_sem, s6, hne]; done) | (simp only [go_sem, s6, hne]; and_intros <;> first | omega | rfl | decide))
            rotate_left; focus exact (by repeat (first | exact Fr.rfl' _ _ | assumption | refine Fr.updk ?_ (by omega) _))
            simp only [resA, resV, Try.results40, go_sem, s6, hne]
            all_goals try (first | exact Co.t2 (.dat rfl) (.dat rfl) | exact Co.t3 (.dat rfl) (.dat rfl) (.dat rfl))
            all_goals exact .t3 (co_tm rfl) (.dat rfl) (.dat rfl)
          | false =>
            have hn3 : n ≠ 300 := fun e => by subst e; simp at h3
            rw [if_neg (by omega), show 300 - n - 1 = 300 - (n + 1) by omega] at hv
            repeat' (first | refine awp_seq_k fun K hK => ?_ | ((first | refine awp_region_k (by kernel_rfl) fun R hR => ?_ | refine awp_draw mixed (by kernel_rfl) (by kernel_rfl) fun R hR => ?_); simp only [go_sem, s1, s5, s6, s10, sh1, sh2, hne, h1, h2, h3]) | ((first | (refine hR _ ?_; clear hR R) | refine awp_skip ?_ | refine awp_exit ?_ | refine awp_ret ?_); try simp only [thenA, inBlockA, reduceIte, reduceCtorEq, Nat.reduceEqDiff, if_false, if_true]) | ((first | refine hK _ ?_ | (clear hK K; first | refine hK _ ?_ | (clear hK K; first | refine hK _ ?_ | (clear hK K; first | refine hK _ ?_ | (clear hK K; refine hK _ ?_))))); clear hK K) | refine awp_true rfl rfl ?_ | refine awp_false rfl rfl ?_ | refine awp_block ?_ | ((first | refine CallK.pure (enter97) (hst) ?_ ?_ | refine CallD.pure (enter97) (hst) ?_ ?_); (focus first | ((repeat (first | exact trivial | refine ⟨(by first | exact Or.inl rfl | exact Or.inr rfl), ?_⟩)); done) | (simp only [coL, AV.dat, true_or, or_true, AV.d.injEq, go_sem]; done)); simp only [go_sem, s1, s5, s6, s10, sh1, sh2, hne, h1, h2, h3]) | refine And.intro (by first | ((repeat' first | omega | exact trivial | rfl | assumption | (intro a e; subst e; rfl) | exact map_sz fun a => (by simp only [go_sem]) | refine And.intro ?_ ?_); done) | fail) ?_ | fail)
            refine ⟨⟨n + 1, r.1, ?_⟩, ?_⟩
            rotate_left
            · simp only [go_sem, s1, s5, s6, s10, sh1, sh2, hne]; omega
            simp only [go_sem, s1, s5, s6, s10, sh1, sh2, hne]
            and_intros; all_goals try (first | rfl | omega | assumption | ((repeat (first | exact Fr.rfl' _ _ | assumption | refine Fr.updk ?_ (by omega) _)); done))
set_option maxHeartbeats 2000000 in
set_option maxRecDepth 20000 in
theorem normalOf_tri (rs : List Rl) (G : Tm → Prop) (hSt : ∀ x : Tm, x.size ≤ 4000000 → G x → Tri Try.prog 42 [.d (rlsDV rs), .d (tmDV x)] (pure' (.tup [.d (tmDV (stepG rs x).1), bA (stepG rs x).2.1, iA (stepG rs x).2.2]))) (hGd : ∀ x : Tm, G x → (stepG rs x).2.2 = 0 → G (stepG rs x).1) (t : Tm) (ht : t.size ≤ 4000000) (hg : G t) :
    Tri Try.prog 43 [.d (rlsDV rs), .d (tmDV t)] (pure' (.tup [.d (tmDV (normG rs 300 t 0).1), iA (normG rs 300 t 0).2.1, iA (normG rs 300 t 0).2.2])) := by
  refine tri_enter Try.func43 rfl Try.ntmps43 (by simp only [List.length_cons, List.length_nil]; omega) fun w0 h0 k hrd hwr => ?_
  repeat' (first | refine awp_seq_k fun K hK => ?_ | ((first | refine awp_region_k (by kernel_rfl) fun R hR => ?_ | refine awp_draw mixed (by kernel_rfl) (by kernel_rfl) fun R hR => ?_); simp only [go_sem]) | ((first | (refine hR _ ?_; clear hR R) | refine awp_skip ?_ | refine awp_exit ?_ | refine awp_ret ?_); try simp only [thenA, inBlockA, reduceIte, reduceCtorEq, Nat.reduceEqDiff, if_false, if_true]) | ((first | refine hK _ ?_ | (clear hK K; first | refine hK _ ?_ | (clear hK K; first | refine hK _ ?_ | (clear hK K; first | refine hK _ ?_ | (clear hK K; refine hK _ ?_))))); clear hK K) | refine awp_true rfl rfl ?_ | refine awp_false rfl rfl ?_ | refine awp_block ?_ | refine And.intro (by first | ((repeat' first | omega | exact trivial | rfl | assumption | (intro a e; subst e; rfl) | exact map_sz fun a => (by simp only [go_sem]) | refine And.intro ?_ ?_); done) | fail) ?_ | fail)
  refine awp_loop (fun σ => ∃ (n : Nat) (x : Tm), σ.t 0 = .d (rlsDV rs) ∧ σ.t 3 = .ptr (k, 0) 0 ∧ σ.t 4 = .ptr (k, 1) 0 ∧ σ.t 7 = iA n ∧ σ.h (k, 0) = some (.cells 27 [iA x.v, iA x.f, .d (.sl (x.us.map tmDV))]) ∧ σ.h (k, 1) = some (.cells 27 [iA 0, iA 0, .nil]) ∧
    Fr k h0 σ.h ∧ k < σ.k ∧ n ≤ 300 ∧ x.size ≤ 4000000 ∧ G x ∧ normG rs (300 - n) x n = normG rs 300 t 0) (fun σ => 300 - (intOf' (σ.t 7)).toNat) ?_ ?_
  · refine ⟨0, t, ?_⟩
    simp only [go_sem]
    and_intros; all_goals try (first | rfl | omega | assumption | ((repeat (first | exact Fr.rfl' _ _ | assumption | refine Fr.updk ?_ (by omega) _)); done))
  · rintro σ ⟨n, x, s0, s3, s4, s7, sh1, sh2, hF, hk, hn, hx, hxg, hv⟩
    have hne := ltne hk
    have hst := hSt x hx hxg
    have hsz := step_size (rs := rs) hx
    have hgd := hGd x hxg
    rw [normG_eq] at hv
    generalize stepG rs x = r at *
    cases h1 : (r.2.2 != 0) with
    | true =>
      rw [if_pos (by simpa using h1)] at hv
      repeat' (first | refine awp_seq_k fun K hK => ?_ | ((first | refine awp_region_k (by kernel_rfl) fun R hR => ?_ | refine awp_draw mixed (by kernel_rfl) (by kernel_rfl) fun R hR => ?_); simp only [go_sem, s0, s3, s4, s7, sh1, sh2, hne, h1]) | ((first | (refine hR _ ?_; clear hR R) | refine awp_skip ?_ | refine awp_exit ?_ | refine awp_ret ?_); try simp only [thenA, inBlockA, reduceIte, reduceCtorEq, Nat.reduceEqDiff, if_false, if_true]) | ((first | refine hK _ ?_ | (clear hK K; first | refine hK _ ?_ | (clear hK K; first | refine hK _ ?_ | (clear hK K; first | refine hK _ ?_ | (clear hK K; refine hK _ ?_))))); clear hK K) | refine awp_true rfl rfl ?_ | refine awp_false rfl rfl ?_ | refine awp_block ?_ | ((first | refine CallK.pure (enter42) (hst) ?_ ?_ | refine CallD.pure (enter42) (hst) ?_ ?_); (focus first | ((repeat (first | exact trivial | refine ⟨(by first | exact Or.inl rfl | exact Or.inr rfl), ?_⟩)); done) | (simp only [coL, AV.dat, true_or, or_true, AV.d.injEq, go_sem]; done)); simp only [go_sem, s0, s3, s4, s7, sh1, sh2, hne, h1]) | refine And.intro (by first | ((repeat' first | omega | exact trivial | rfl | assumption | (intro a e; subst e; rfl) | exact map_sz fun a => (by simp only [go_sem]) | refine And.intro ?_ ?_); done) | fail) ?_ | fail)
      rw [← hv]
      (first | refine ret_pure ?_ ?_ ?_ | refine ret_ro ?_ ?_ ?_); focus exact (by simp only [Try.results43, resOkL, resOk, Try.ntmps43, List.toList_toArray]; first | decide | (simp only [go_sem, s4, hne]; done) | (simp only [go_sem, s4, hne]; and_intros <;> first | omega | rfl | decide))
      rotate_left; focus exact (by repeat (first | exact Fr.rfl' _ _ | assumption | refine Fr.updk ?_ (by omega) _))
      simp only [resA, resV, Try.results43, go_sem, s4, hne]
      all_goals try (first | exact Co.t2 (.dat rfl) (.dat rfl) | exact Co.t3 (.dat rfl) (.dat rfl) (.dat rfl))
      all_goals exact .t3 (co_tm rfl) (.dat rfl) (.dat rfl)
    | false =>
      have h10 : r.2.2 = 0 := by simpa using h1
      rw [if_neg (by simpa using h1)] at hv
      cases h2 : r.2.1 with
      | false =>
        rw [h2, if_pos rfl] at hv
        repeat' (first | refine awp_seq_k fun K hK => ?_ | ((first | refine awp_region_k (by kernel_rfl) fun R hR => ?_ | refine awp_draw mixed (by kernel_rfl) (by kernel_rfl) fun R hR => ?_); simp only [go_sem, s0, s3, s4, s7, sh1, sh2, hne, h1, h2]) | ((first | (refine hR _ ?_; clear hR R) | refine awp_skip ?_ | refine awp_exit ?_ | refine awp_ret ?_); try simp only [thenA, inBlockA, reduceIte, reduceCtorEq, Nat.reduceEqDiff, if_false, if_true]) | ((first | refine hK _ ?_ | (clear hK K; first | refine hK _ ?_ | (clear hK K; first | refine hK _ ?_ | (clear hK K; first | refine hK _ ?_ | (clear hK K; refine hK _ ?_))))); clear hK K) | refine awp_true rfl rfl ?_ | refine awp_false rfl rfl ?_ | refine awp_block ?_ | ((first | refine CallK.pure (enter42) (hst) ?_ ?_ | refine CallD.pure (enter42) (hst) ?_ ?_); (focus first | ((repeat (first | exact trivial | refine ⟨(by first | exact Or.inl rfl | exact Or.inr rfl), ?_⟩)); done) | (simp only [coL, AV.dat, true_or, or_true, AV.d.injEq, go_sem]; done)); simp only [go_sem, s0, s3, s4, s7, sh1, sh2, hne, h1, h2]) | refine And.intro (by first | ((repeat' first | omega | exact trivial | rfl | assumption | (intro a e; subst e; rfl) | exact map_sz fun a => (by simp only [go_sem]) | refine And.intro ?_ ?_); done) | fail) ?_ | fail)
        rw [← hv]
        (first | refine ret_pure ?_ ?_ ?_ | refine ret_ro ?_ ?_ ?_); focus exact (by simp only [Try.results43, resOkL, resOk, Try.ntmps43, List.toList_toArray]; first | decide | (simp only [go_sem, s4, hne]; done) | (simp only [go_sem, s4, hne]; and_intros <;> first | omega | rfl | decide))
        rotate_left; focus exact (by repeat (first | exact Fr.rfl' _ _ | assumption | refine Fr.updk ?_ (by omega) _))
        simp only [resA, resV, Try.results43, go_sem, s4, hne]
        all_goals try (first | exact Co.t2 (.dat rfl) (.dat rfl) | exact Co.t3 (.dat rfl) (.dat rfl) (.dat rfl))
        all_goals exact .t3 (co_tm' rfl) (.dat rfl) (.dat rfl)
      | true =>
        rw [h2, if_neg (by simp)] at hv
        cases h3 : ((n : Int) == 300) with
        | true =>
          have : n = 300 := by simp at h3; omega
          subst this
          rw [if_pos rfl] at hv
          repeat' (first | refine awp_seq_k fun K hK => ?_ | ((first | refine awp_region_k (by kernel_rfl) fun R hR => ?_ | refine awp_draw mixed (by kernel_rfl) (by kernel_rfl) fun R hR => ?_); simp only [go_sem, s0, s3, s4, s7, sh1, sh2, hne, h1, h2, h3]) | ((first | (refine hR _ ?_; clear hR R) | refine awp_skip ?_ | refine awp_exit ?_ | refine awp_ret ?_); try simp only [thenA, inBlockA, reduceIte, reduceCtorEq, Nat.reduceEqDiff, if_false, if_true]) | ((first | refine hK _ ?_ | (clear hK K; first | refine hK _ ?_ | (clear hK K; first | refine hK _ ?_ | (clear hK K; first | refine hK _ ?_ | (clear hK K; refine hK _ ?_))))); clear hK K) | refine awp_true rfl rfl ?_ | refine awp_false rfl rfl ?_ | refine awp_block ?_ | ((first | refine CallK.pure (enter42) (hst) ?_ ?_ | refine CallD.pure (enter42) (hst) ?_ ?_); (focus first | ((repeat (first | exact trivial | refine ⟨(by first | exact Or.inl rfl | exact Or.inr rfl), ?_⟩)); done) | (simp only [coL, AV.dat, true_or, or_true, AV.d.injEq, go_sem]; done)); simp only [go_sem, s0, s3, s4, s7, sh1, sh2, hne, h1, h2, h3]) | refine And.intro (by first | ((repeat' first | omega | exact trivial | rfl | assumption | (intro a e; subst e; rfl) | exact map_sz fun a => (by simp only [go_sem]) | refine And.intro ?_ ?_); done) | fail) ?_ | fail)
          rw [← hv]
          (first | refine ret_pure ?_ ?_ ?_ | refine ret_ro ?_ ?_ ?_); focus exact (by simp only [Try.results43, resOkL, resOk, Try.ntmps43, List.toList_toArray]; first | decide | (simp only [go_sem, s4, hne]; done) | (simp only [go_sem, s4, hne]; and_intros <;> first | omega | rfl | decide))
          rotate_left; focus exact (by repeat (first | exact Fr.rfl' _ _ | assumption | refine Fr.updk ?_ (by omega) _))
          simp only [resA, resV, Try.results43, go_sem, s4, hne]
          all_goals try (first | exact Co.t2 (.dat rfl) (.dat rfl) | exact Co.t3 (.dat rfl) (.dat rfl) (.dat rfl))
          all_goals exact .t3 (co_tm rfl) (.dat rfl) (.dat rfl)
        | false =>
          have hn3 : n ≠ 300 := fun e => by subst e; simp at h3
          have hgd := hgd h10
          rw [if_neg (by omega), show 300 - n - 1 = 300 - (n + 1) by omega] at hv
          repeat' (first | refine awp_seq_k fun K hK => ?_ | ((first | refine awp_region_k (by kernel_rfl) fun R hR => ?_ | refine awp_draw mixed (by kernel_rfl) (by kernel_rfl) fun R hR => ?_); simp only [go_sem, s0, s3, s4, s7, sh1, sh2, hne, h1, h2, h3]) | ((first | (refine hR _ ?_; clear hR R) | refine awp_skip ?_ | refine awp_exit ?_ | refine awp_ret ?_); try simp only [thenA, inBlockA, reduceIte, reduceCtorEq, Nat.reduceEqDiff, if_false, if_true]) | ((first | refine hK _ ?_ | (clear hK K; first | refine hK _ ?_ | (clear hK K; first | refine hK _ ?_ | (clear hK K; first | refine hK _ ?_ | (clear hK K; refine hK _ ?_))))); clear hK K) | refine awp_true rfl rfl ?_ | refine awp_false rfl rfl ?_ | refine awp_block ?_ | ((first | refine CallK.pure (enter42) (hst) ?_ ?_ | refine CallD.pure (enter42) (hst) ?_ ?_); (focus first | ((repeat (first | exact trivial | refine ⟨(by first | exact Or.inl rfl | exact Or.inr rfl), ?_⟩)); done) | (simp only [coL, AV.dat, true_or, or_true, AV.d.injEq, go_sem]; done)); simp only [go_sem, s0, s3, s4, s7, sh1, sh2, hne, h1, h2, h3]) | refine And.intro (by first | ((repeat' first | omega | exact trivial | rfl | assumption | (intro a e; subst e; rfl) | exact map_sz fun a => (by simp only [go_sem]) | refine And.intro ?_ ?_); done) | fail) ?_ | fail)
          refine ⟨⟨n + 1, r.1, ?_⟩, ?_⟩
          rotate_left
          · simp only [go_sem, s0, s3, s4, s7, sh1, sh2, hne]; omega
          simp only [go_sem, s0, s3, s4, s7, sh1, sh2, hne]
          and_intros; all_goals try (first | rfl | omega | assumption | ((repeat (first | exact Fr.rfl' _ _ | assumption | refine Fr.updk ?_ (by omega) _)); done))
end Go.Proofs.Ytmeekpinkfpnhaa

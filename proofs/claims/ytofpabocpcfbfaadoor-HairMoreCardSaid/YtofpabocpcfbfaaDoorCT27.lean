/- Walks: T27. -/
import Derived.Test.YtofpabocpcfbfaaDoorMF
import Derived.Test.YtofpabocpcfbfaaDoorCT23
import Derived.Test.YtofpabocpcfbfaaDoorMD2
set_option linter.unusedSimpArgs false
set_option linter.unusedVariables false
namespace Go.Proofs.YtofpabocpcfbfaaDoor
open Go Go.Proofs K

set_option maxHeartbeats 2000000 in
set_option maxRecDepth 100000 in
theorem c7 (w : World) (b : HBook) (A1 A2 : Option Addr) (n1 c1 n2 c2 : Nat) (h1 : RdRow Hank.enc 4 w A1 n1 b.hanks) (h2 : RdRow Horse.enc 3 w A2 n2 b.horses) (hP : Parts w) (hcap : n1 ≤ c1) (m0 m1 m2 : Int) : Cv Tryd.prog 7 #[.agg #[.slice A1 n1 c1, .slice A2 n2 c2, .int .i64 b.dark, .int .i64 b.near, .int .i64 b.mat], .agg #[.int .i64 m0, .int .i64 m1, .int .i64 m2]] w (fun v w' => v = .bool true ∧ Ext no w w') := by
  refine cv_intro Tryd.func7 rfl rfl Tryd.ntmps7 rfl (by kernel_rfl) ?_
  have hS := St.nil w
  have hl1 := h1.1
  have hl2 := h2.1
  have hb1 := h1.2.1
  have hb2 := h2.2.1
  refine k_seq ?_
  refine k_region ?_
  refine r_boxa hS rfl rfl rfl ?_
  intro b2 w1 hS hE hB2
  refine r_boxa hS rfl rfl rfl ?_
  intro b3 w2 hS hE hB3
  refine r_assign (by conv => lhs; whnf) rfl rfl ?_
  refine wpl_nil ?_
  refine thn ?_
  refine k_seq ?_
  refine k_seq ?_
  refine k_region ?_
  refine r_load rfl (ld_ba hS (i := 0) rfl rfl rfl ag_25) rfl rfl ?_
  refine r_call rfl (c14 _ b A1 A2 n1 c1 n2 c2 (h1.ext hS.ext) (h2.ext hS.ext)) rfl rfl ?_
  rintro _ w3 ⟨rfl, hE⟩
  have hS := hS.step hE
  refine r_not rfl rfl rfl ?_
  refine r_moveb rfl rfl rfl (fun hb4 => ?_) (fun hb4 => ?_)
  · -- True
    have hb40 := hb4
    (try simp only [decide_eq_true_eq, decide_eq_false_iff_not, Bool.and_eq_true, Bool.and_eq_false_iff, Bool.not_eq_true', Bool.not_eq_false', Int.not_lt, Int.not_le] at hb4)
    refine r_skip rfl rfl ?_
    refine r_skip rfl rfl ?_
    refine r_skip rfl rfl ?_
    refine r_skip rfl rfl ?_
    refine r_pick_t rfl (by conv => lhs; whnf) rfl rfl ?_
    refine wpl_nil ?_
    refine thn ?_
    refine k_cond_t rfl ?_
    refine k_seq ?_
    refine k_region ?_
    refine r_call rfl (c15 _ (hP.ext hS.ext)) rfl rfl ?_
    rintro _ w5 ⟨rfl, hE⟩
    have hS := hS.step hE
    refine r_assign (by conv => lhs; whnf) rfl rfl ?_
    refine wpl_nil ?_
    refine thn ?_
    refine ret1 (fun _ _ _ => rfl) (by conv => lhs; whnf) ?_
    exact ⟨rfl, hS.ext⟩
  · -- False
    have hb40 := hb4
    (try simp only [decide_eq_true_eq, decide_eq_false_iff_not, Bool.and_eq_true, Bool.and_eq_false_iff, Bool.not_eq_true', Bool.not_eq_false', Int.not_lt, Int.not_le] at hb4)
    have hv : b.valid = true := by simpa using hb4
    refine r_field rfl fl_25_0 rfl rfl ?_
    refine r_load rfl (ld_bs hS (i := 0) rfl rfl sc_22) rfl rfl ?_
    refine r_len rfl sl_22 rfl rfl ?_
    refine r_eql rfl rfl rfl rfl ?_
    refine r_pick_f rfl (by conv => lhs; whnf) rfl rfl ?_
    refine wpl_nil ?_
    refine thn ?_
    refine k_cond rfl (fun hc6 => ?_) (fun hc6 => ?_)
    · -- t
      have hc60 := hc6
      (try simp only [decide_eq_true_eq, decide_eq_false_iff_not, Bool.and_eq_true, Bool.and_eq_false_iff, Bool.not_eq_true', Bool.not_eq_false', Int.not_lt, Int.not_le] at hc6)
      refine k_seq ?_
      refine k_region ?_
      refine r_call rfl (c15 _ (hP.ext hS.ext)) rfl rfl ?_
      rintro _ w7 ⟨rfl, hE⟩
      have hS := hS.step hE
      refine r_assign (by conv => lhs; whnf) rfl rfl ?_
      refine wpl_nil ?_
      refine thn ?_
      refine ret1 (fun _ _ _ => rfl) (by conv => lhs; whnf) ?_
      exact ⟨rfl, hS.ext⟩
    · -- f
      have hc60 := hc6
      (try simp only [decide_eq_true_eq, decide_eq_false_iff_not, Bool.and_eq_true, Bool.and_eq_false_iff, Bool.not_eq_true', Bool.not_eq_false', Int.not_lt, Int.not_le] at hc6)
      have hn4 : n1 ≠ 4 := by omega
      refine k_skip ?_
      refine thn ?_
      refine k_seq ?_
      have hg := (GoodB.of_valid hv).1
      have hg1 := hg.l1
      have hg2 := hg.l2
      have hck : b.chk = 0 := by unfold HBook.chk; rw [hv]; rfl
      have hn3 : b.hanks.length ≤ 3 := by have := (GoodB.of_valid hv).2; omega
      obtain ⟨r0, hr0d⟩ : ∃ r, r = roundI m0 60 := ⟨_, rfl⟩
      have hr0 : 0 ≤ r0 ∧ r0 < 60 := by rw [hr0d]; exact roundI_bd (by omega)
      obtain ⟨s0, hs0d⟩ : ∃ s, s = roundI m1 21 := ⟨_, rfl⟩
      have hs0 : 0 ≤ s0 ∧ s0 ≤ 20 := by have := roundI_bd (n := m1) (m := 21) (by omega); omega
      have hgd := hg.dark
      have hSb := hS
      apply k_draw (m := 10) (ss := [.val _, .val _, .val _, .val _, .val _, .val _, .val _, .val _, .ex (AddA n1 A2 n2 c2 b.dark b.near b.mat ((b.hanks ++ [addHank (1 + r0) s0]).flatMap Hank.enc)), .ex (Mk 25 _)]) mixed rfl (by kernel_rfl) (by kernel_rfl) rfl rfl rfl
      · refine ⟨?_, ?_, ?_, ?_, ?_, ?_, ?_, ?_, ?_, ?_, trivial⟩
        · -- op 0
          intro jnk vals lo hi w8 hE0 hd
          have hS := hS.step hE0
          refine r_load rfl (ld_ba hS (i := 0) rfl rfl rfl ag_25) rfl rfl ?_
          refine wpl_end ?_
          exact ⟨rfl, Ext.refl _ _, rfl⟩
        · -- op 1
          intro jnk vals lo hi w9 hE0 hd
          have hS := hS.step hE0
          refine r_indexa rfl rfl ar_58 (by omega) rfl rfl ?_
          refine wpl_end ?_
          exact ⟨rfl, Ext.refl _ _, rfl⟩
        · -- op 2
          intro jnk vals lo hi w10 hE0 hd
          have hS := hS.step hE0
          refine r_load rfl (ld_bs hS (i := 1) rfl rfl sc_3) rfl rfl ?_
          refine wpl_end ?_
          exact ⟨rfl, Ext.refl _ _, rfl⟩
        · -- op 3
          intro jnk vals lo hi w11 hE0 hd
          have hS := hS.step hE0
          refine r_call rfl (c17 _ m0 _ (by omega)) rfl rfl ?_
          rintro _ w12 ⟨rfl, hE⟩
          have hS := hS.step hE
          rw [← hr0d]
          refine wpl_end ?_
          exact ⟨rfl, hE.of_no, rfl⟩
        · -- op 4
          intro jnk vals lo hi w13 hE0 hd
          have hS := hS.step hE0
          refine r_add rfl rfl rfl rfl (by omega) ?_
          refine wpl_end ?_
          exact ⟨rfl, Ext.refl _ _, rfl⟩
        · -- op 5
          intro jnk vals lo hi w14 hE0 hd
          have hS := hS.step hE0
          refine r_indexa rfl rfl ar_58 (by omega) rfl rfl ?_
          refine wpl_end ?_
          exact ⟨rfl, Ext.refl _ _, rfl⟩
        · -- op 6
          intro jnk vals lo hi w15 hE0 hd
          have hS := hS.step hE0
          refine r_load rfl (ld_bs hS (i := 1) rfl rfl sc_3) rfl rfl ?_
          refine wpl_end ?_
          exact ⟨rfl, Ext.refl _ _, rfl⟩
        · -- op 7
          intro jnk vals lo hi w16 hE0 hd
          have hS := hS.step hE0
          refine r_call rfl (c17 _ m1 _ (by omega)) rfl rfl ?_
          rintro _ w17 ⟨rfl, hE⟩
          have hS := hS.step hE
          rw [← hs0d]
          refine wpl_end ?_
          exact ⟨rfl, hE.of_no, rfl⟩
        · -- op 8
          intro jnk vals lo hi w18 hE0 hd
          have hS := hS.step hE0
          refine r_call rfl (c35 _ b A1 A2 n1 c1 n2 c2 (h1.ext hS.ext) (h2.ext hS.ext) (1 + r0) s0 (by omega)) rfl rfl ?_
          rintro _ w19 ⟨aN, cN, rfl, hE, hrow, hcN, hnw⟩
          refine wpl_end ?_
          exact ⟨rfl, hE.of_no, ⟨aN, cN, rfl, hcN, hnw, hrow⟩⟩
        · -- op 9
          intro jnk vals lo hi w20 hE0 hd
          have hS := hS.step hE0
          refine r_alloc hS z_25 rfl rfl rfl ?_
          intro b5 w21 hS hE hB5
          refine wpl_end ?_
          exact ⟨rfl, hE.of_no, mk_alloc (hS.get (i := 2) rfl) hB5⟩
      · intro φ hφ v lo hi S w1 w2 hEa hEb hSb2
        rcases hφ with hφ | ⟨j, hφ⟩
        · simp at hφ
          rcases hφ with rfl | rfl
          · exact adda_stays hEa hEb hSb2
          · exact mk_stays hEa hEb hSb2
        · simp at hφ
      intro jnk vals lo hi w22 hE0 hsat hdj hbd
      obtain ⟨c22_9, hv9, hl9, hh9, hb9⟩ := hsat 9 (by decide) rfl
      rw [vset_eq hv9]
      obtain ⟨aN, cN, hv8, hcN, hnw8, hrow8⟩ := hsat 8 (by decide) rfl
      rw [vset_eq hv8]
      have hS := hSb.add2 hE0 (x := box _ 25 _) (y := row 42 4 aN (n1 + 1) cN ((b.hanks ++ [addHank (1 + r0) s0]).flatMap Hank.enc)) hb9 hrow8 (hbd 9 (by decide)) (hbd 8 (by decide)) (hdj 9 8 (by decide) (by decide) (by decide)) (fun k hk => by cases hk; exact ⟨hl9, hh9⟩) hnw8
      refine r_storea hS (i := 2) rfl rfl rfl sz_25 rfl rfl rfl ?_
      intro w23 hS hE
      refine wpl_nil ?_
      refine thn ?_
      refine k_seq ?_
      refine k_seq ?_
      (try simp only [List.nil_append, List.cons_append, List.set_cons_zero, List.set_cons_succ] at hS)
      refine k_region ?_
      refine r_indexa rfl rfl ar_58 (by omega) rfl rfl ?_
      refine r_load rfl (ld_bs hS (i := 1) rfl rfl sc_3) rfl rfl ?_
      refine r_rem rfl rfl rfl rfl (by omega) ?_
      refine r_eql rfl rfl rfl rfl ?_
      refine wpl_nil ?_
      refine thn ?_
      refine k_cond rfl (fun hc24 => ?_) (fun hc24 => ?_)
      · -- t
        skip
        refine k_seq ?_
        (try simp only [List.nil_append, List.cons_append, List.set_cons_zero, List.set_cons_succ] at hS)
        refine k_region ?_
        refine r_load rfl (ld_ba hS (i := 0) rfl rfl rfl ag_25) rfl rfl ?_
        refine r_storea hS (i := 2) rfl rfl rfl sz_25 rfl rfl rfl ?_
        intro w25 hS hE
        refine wpl_nil ?_
        refine thn ?_
        (try simp only [List.nil_append, List.cons_append, List.set_cons_zero, List.set_cons_succ] at hS)
        refine k_region ?_
        refine r_field rfl fl_25_2 rfl rfl ?_
        refine r_load rfl (ld_bs hS (i := 0) rfl rfl sc_3) rfl rfl ?_
        refine r_add rfl rfl rfl rfl (by omega) ?_
        refine r_min2 rfl rfl rfl rfl ?_
        refine r_field rfl fl_25_2 rfl rfl ?_
        refine r_store1 hS (i := 2) rfl (by conv => lhs; whnf) rfl rfl sz_3 rfl rfl rfl ?_
        intro w26 hS hE
        refine wpl_nil ?_
        refine thn ?_
        refine k_seq ?_
        (try simp only [List.nil_append, List.cons_append, List.set_cons_zero, List.set_cons_succ] at hS)
        refine k_region ?_
        have hvc : b.darker.valid = true := HBook.darker_valid hv
        have hm : More b b.darker := HBook.darker_more hg
        obtain ⟨s, hsd⟩ : ∃ s, s = roundI m2 21 := ⟨_, rfl⟩
        have hs : 0 ≤ s ∧ s ≤ 20 := by have := roundI_bd (n := m2) (m := 21) (by omega); omega
        have hlen := hm.lacks hv hvc
        have hper := hm.perhaps hv hvc
        have hpos := HBook.lacks_pos hv
        have hbuy := hm.buy hv hvc hs
        have hbe := HBook.buy_err hv hs
        have hckc : b.darker.chk = 0 := by unfold HBook.chk; rw [hvc]; rfl
        have hpe : b.perhapsE = 0 := hck
        have hpec : b.darker.perhapsE = 0 := hckc
        refine r_indexa rfl rfl ar_58 (by omega) rfl rfl ?_
        refine r_load rfl (ld_bs hS (i := 1) rfl rfl sc_3) rfl rfl ?_
        refine r_call rfl (c17 _ m2 _ (by omega)) rfl rfl ?_
        rintro _ w27 ⟨rfl, hE⟩
        have hS := hS.step hE
        rw [← hsd]
        refine r_assign (by conv => lhs; whnf) rfl rfl ?_
        refine wpl_nil ?_
        refine thn ?_
        refine k_seq ?_
        (try simp only [List.nil_append, List.cons_append, List.set_cons_zero, List.set_cons_succ] at hS)
        refine k_region ?_
        refine r_load rfl (ld_ba hS (i := 0) rfl rfl rfl ag_25) rfl rfl ?_
        refine r_call rfl (c27 _ b A1 A2 n1 c1 n2 c2 (h1.ext hS.ext) (h2.ext hS.ext) (hP.ext hS.ext)) rfl rfl ?_
        rintro _ w28 ⟨aq28, cq28, hv28, hE, _, _⟩
        simp only [hck] at hv28
        subst hv28
        have hS := hS.step hE
        refine r_move (by conv => lhs; whnf) rfl rfl ?_
        refine r_extract rfl rfl rfl rfl ?_
        refine r_extract rfl rfl rfl rfl ?_
        refine r_assign (by conv => lhs; whnf) rfl rfl ?_
        refine r_assign (by conv => lhs; whnf) rfl rfl ?_
        refine wpl_nil ?_
        refine thn ?_
        refine k_seq ?_
        (try simp only [List.nil_append, List.cons_append, List.set_cons_zero, List.set_cons_succ] at hS)
        refine k_region ?_
        refine r_load rfl (ld_ba hS (i := 2) rfl rfl rfl ag_25) rfl rfl ?_
        refine r_call rfl (c27 _ b.darker A1 A2 n1 c1 n2 c2 (h1.ext hS.ext) (h2.ext hS.ext) (hP.ext hS.ext)) rfl rfl ?_
        rintro _ w29 ⟨aq29, cq29, hv29, hE, _, _⟩
        simp only [hckc] at hv29
        subst hv29
        have hS := hS.step hE
        refine r_move (by conv => lhs; whnf) rfl rfl ?_
        refine r_extract rfl rfl rfl rfl ?_
        refine r_extract rfl rfl rfl rfl ?_
        refine r_assign (by conv => lhs; whnf) rfl rfl ?_
        refine r_assign (by conv => lhs; whnf) rfl rfl ?_
        refine wpl_nil ?_
        refine thn ?_
        refine k_seq ?_
        (try simp only [List.nil_append, List.cons_append, List.set_cons_zero, List.set_cons_succ] at hS)
        refine k_region ?_
        refine r_load rfl (ld_ba hS (i := 0) rfl rfl rfl ag_25) rfl rfl ?_
        refine r_call rfl (c36 _ b A1 A2 n1 c1 n2 c2 (h1.ext hS.ext) (h2.ext hS.ext) (hP.ext hS.ext)) rfl rfl ?_
        rintro _ w30 ⟨hv30, hE⟩
        simp only [hpe] at hv30
        subst hv30
        have hS := hS.step hE
        refine r_move (by conv => lhs; whnf) rfl rfl ?_
        refine r_extract rfl rfl rfl rfl ?_
        refine r_extract rfl rfl rfl rfl ?_
        refine r_assign (by conv => lhs; whnf) rfl rfl ?_
        refine r_assign (by conv => lhs; whnf) rfl rfl ?_
        refine wpl_nil ?_
        refine thn ?_
        refine k_seq ?_
        (try simp only [List.nil_append, List.cons_append, List.set_cons_zero, List.set_cons_succ] at hS)
        refine k_region ?_
        refine r_load rfl (ld_ba hS (i := 2) rfl rfl rfl ag_25) rfl rfl ?_
        refine r_call rfl (c36 _ b.darker A1 A2 n1 c1 n2 c2 (h1.ext hS.ext) (h2.ext hS.ext) (hP.ext hS.ext)) rfl rfl ?_
        rintro _ w31 ⟨hv31, hE⟩
        simp only [hpec] at hv31
        subst hv31
        have hS := hS.step hE
        refine r_move (by conv => lhs; whnf) rfl rfl ?_
        refine r_extract rfl rfl rfl rfl ?_
        refine r_extract rfl rfl rfl rfl ?_
        refine r_assign (by conv => lhs; whnf) rfl rfl ?_
        refine r_assign (by conv => lhs; whnf) rfl rfl ?_
        refine wpl_nil ?_
        refine thn ?_
        refine k_seq ?_
        (try simp only [List.nil_append, List.cons_append, List.set_cons_zero, List.set_cons_succ] at hS)
        refine k_region ?_
        refine r_load rfl (ld_ba hS (i := 0) rfl rfl rfl ag_25) rfl rfl ?_
        refine r_move (by conv => lhs; whnf) rfl rfl ?_
        refine r_call rfl (c33 _ b A1 A2 n1 c1 n2 c2 (h1.ext hS.ext) (h2.ext hS.ext) (hP.ext hS.ext) hcap s) rfl rfl ?_
        rintro _ w32 ⟨rfl, hE⟩
        have hS := hS.step hE
        refine r_move (by conv => lhs; whnf) rfl rfl ?_
        refine r_extract rfl rfl rfl rfl ?_
        refine r_extract rfl rfl rfl rfl ?_
        refine r_assign (by conv => lhs; whnf) rfl rfl ?_
        refine r_assign (by conv => lhs; whnf) rfl rfl ?_
        refine wpl_nil ?_
        refine thn ?_
        refine k_seq ?_
        (try simp only [List.nil_append, List.cons_append, List.set_cons_zero, List.set_cons_succ] at hS)
        refine k_region ?_
        refine r_load rfl (ld_ba hS (i := 2) rfl rfl rfl ag_25) rfl rfl ?_
        refine r_move (by conv => lhs; whnf) rfl rfl ?_
        refine r_call rfl (c33 _ b.darker A1 A2 n1 c1 n2 c2 (h1.ext hS.ext) (h2.ext hS.ext) (hP.ext hS.ext) hcap s) rfl rfl ?_
        rintro _ w33 ⟨rfl, hE⟩
        have hS := hS.step hE
        refine r_move (by conv => lhs; whnf) rfl rfl ?_
        refine r_extract rfl rfl rfl rfl ?_
        refine r_extract rfl rfl rfl rfl ?_
        refine r_assign (by conv => lhs; whnf) rfl rfl ?_
        refine r_assign (by conv => lhs; whnf) rfl rfl ?_
        refine wpl_nil ?_
        refine thn ?_
        refine k_seq ?_
        (try simp only [List.nil_append, List.cons_append, List.set_cons_zero, List.set_cons_succ] at hS)
        refine k_region ?_
        refine r_move (by conv => lhs; whnf) rfl rfl ?_
        refine r_eql rfl rfl rfl rfl ?_
        refine r_move (by conv => lhs; whnf) rfl rfl ?_
        refine r_move (by conv => lhs; whnf) rfl rfl ?_
        refine r_eql rfl rfl rfl rfl ?_
        refine r_pick_t rfl (by conv => lhs; whnf) rfl rfl ?_
        refine r_move (by conv => lhs; whnf) rfl rfl ?_
        refine r_move (by conv => lhs; whnf) rfl rfl ?_
        refine r_eql rfl rfl rfl rfl ?_
        refine r_pick_t rfl (by conv => lhs; whnf) rfl rfl ?_
        refine r_move (by conv => lhs; whnf) rfl rfl ?_
        refine r_move (by conv => lhs; whnf) rfl rfl ?_
        refine r_eql rfl rfl rfl rfl ?_
        refine r_pick_t rfl (by conv => lhs; whnf) rfl rfl ?_
        refine r_move (by conv => lhs; whnf) rfl rfl ?_
        refine r_move (by conv => lhs; whnf) rfl rfl ?_
        refine r_len rfl sl_26 rfl rfl ?_
        refine r_move (by conv => lhs; whnf) rfl rfl ?_
        refine r_len rfl sl_26 rfl rfl ?_
        refine r_leqv rfl rfl (decide_eq_true (by omega)) rfl rfl ?_
        refine r_pick_t rfl (by conv => lhs; whnf) rfl rfl ?_
        refine r_move (by conv => lhs; whnf) rfl rfl ?_
        refine r_move (by conv => lhs; whnf) rfl rfl ?_
        refine r_moveb rfl rfl rfl (fun hb35 => ?_) (fun hb35 => ?_)
        · -- True
          skip
          refine r_skip rfl rfl ?_
          refine r_skip rfl rfl ?_
          refine r_pick_t rfl (by conv => lhs; whnf) rfl rfl ?_
          refine r_pick_t rfl (by conv => lhs; whnf) rfl rfl ?_
          refine r_move (by conv => lhs; whnf) rfl rfl ?_
          refine r_move (by conv => lhs; whnf) rfl rfl ?_
          refine r_moveb rfl rfl rfl (fun hb36 => ?_) (fun hb36 => ?_)
          · -- True
            skip
            refine r_skip rfl rfl ?_
            refine r_skip rfl rfl ?_
            refine r_skip rfl rfl ?_
            refine r_pick_t rfl (by conv => lhs; whnf) rfl rfl ?_
            refine r_pick_t rfl (by conv => lhs; whnf) rfl rfl ?_
            refine r_move (by conv => lhs; whnf) rfl rfl ?_
            refine r_move (by conv => lhs; whnf) rfl rfl ?_
            refine r_eql rfl rfl rfl rfl ?_
            refine r_moveb rfl rfl rfl (fun hb37 => ?_) (fun hb37 => ?_)
            · -- True
              skip
              have hb2 := hbuy (of_decide_eq_true hb37)
              refine r_skip rfl rfl ?_
              refine r_skip rfl rfl ?_
              refine r_pick_t rfl (by conv => lhs; whnf) rfl rfl ?_
              refine r_pick_t rfl (by conv => lhs; whnf) rfl rfl ?_
              refine r_move (by conv => lhs; whnf) rfl rfl ?_
              refine r_move (by conv => lhs; whnf) rfl rfl ?_
              refine r_eqlv rfl rfl (decide_eq_true hb2.1) rfl rfl ?_
              refine r_move (by conv => lhs; whnf) rfl rfl ?_
              refine r_move (by conv => lhs; whnf) rfl rfl ?_
              refine r_move (by conv => lhs; whnf) rfl rfl ?_
              refine r_leqv rfl rfl (decide_eq_true hb2.2) rfl rfl ?_
              refine r_pick_t rfl (by conv => lhs; whnf) rfl rfl ?_
              refine r_move (by conv => lhs; whnf) rfl rfl ?_
              refine r_skip rfl rfl ?_
              refine r_skip rfl rfl ?_
              refine r_pick_t rfl (by conv => lhs; whnf) rfl rfl ?_
              refine r_pick_t rfl (by conv => lhs; whnf) rfl rfl ?_
              refine r_move (by conv => lhs; whnf) rfl rfl ?_
              refine r_call rfl (c15 _ (hP.ext hS.ext)) rfl rfl ?_
              rintro _ w38 ⟨rfl, hE⟩
              have hS := hS.step hE
              refine r_pick_t rfl (by conv => lhs; whnf) rfl rfl ?_
              refine r_assign (by conv => lhs; whnf) rfl rfl ?_
              refine wpl_nil ?_
              refine thn ?_
              refine ret1 (fun _ _ _ => rfl) (by conv => lhs; whnf) ?_
              exact ⟨rfl, hS.ext⟩
            · -- False
              skip
              have hE4 : b.buyE s = 4 := by
                rcases hbe with h | h
                · exact absurd h (of_decide_eq_false hb37)
                · exact h
              refine r_move (by conv => lhs; whnf) rfl rfl ?_
              refine r_eqlv rfl rfl (decide_eq_true (by omega)) rfl rfl ?_
              refine r_pick_f rfl (by conv => lhs; whnf) rfl rfl ?_
              refine r_pick_t rfl (by conv => lhs; whnf) rfl rfl ?_
              refine r_move (by conv => lhs; whnf) rfl rfl ?_
              refine r_move (by conv => lhs; whnf) rfl rfl ?_
              refine r_eql rfl rfl rfl rfl ?_
              refine r_moveb rfl rfl rfl (fun hb40 => ?_) (fun hb40 => ?_)
              · -- True
                have hb400 := hb40
                (try simp only [decide_eq_true_eq, decide_eq_false_iff_not, Bool.and_eq_true, Bool.and_eq_false_iff, Bool.not_eq_true', Bool.not_eq_false', Int.not_lt, Int.not_le] at hb40)
                refine r_move (by conv => lhs; whnf) rfl rfl ?_
                refine r_move (by conv => lhs; whnf) rfl rfl ?_
                refine r_leq rfl rfl rfl rfl ?_
                refine r_pick_t rfl (by conv => lhs; whnf) rfl rfl ?_
                refine r_moveb rfl rfl rfl (fun hb41 => ?_) (fun hb41 => ?_)
                · -- True
                  have hb410 := hb41
                  (try simp only [decide_eq_true_eq, decide_eq_false_iff_not, Bool.and_eq_true, Bool.and_eq_false_iff, Bool.not_eq_true', Bool.not_eq_false', Int.not_lt, Int.not_le] at hb41)
                  refine r_skip rfl rfl ?_
                  refine r_skip rfl rfl ?_
                  refine r_pick_t rfl (by conv => lhs; whnf) rfl rfl ?_
                  refine r_pick_t rfl (by conv => lhs; whnf) rfl rfl ?_
                  refine r_move (by conv => lhs; whnf) rfl rfl ?_
                  refine r_call rfl (c15 _ (hP.ext hS.ext)) rfl rfl ?_
                  rintro _ w42 ⟨rfl, hE⟩
                  have hS := hS.step hE
                  refine r_pick_t rfl (by conv => lhs; whnf) rfl rfl ?_
                  refine r_assign (by conv => lhs; whnf) rfl rfl ?_
                  refine wpl_nil ?_
                  refine thn ?_
                  refine ret1 (fun _ _ _ => rfl) (by conv => lhs; whnf) ?_
                  exact ⟨rfl, hS.ext⟩
                · -- False
                  have hb410 := hb41
                  (try simp only [decide_eq_true_eq, decide_eq_false_iff_not, Bool.and_eq_true, Bool.and_eq_false_iff, Bool.not_eq_true', Bool.not_eq_false', Int.not_lt, Int.not_le] at hb41)
                  refine r_move (by conv => lhs; whnf) rfl rfl ?_
                  refine r_eqlv rfl rfl (decide_eq_true (by omega)) rfl rfl ?_
                  refine r_pick_f rfl (by conv => lhs; whnf) rfl rfl ?_
                  refine r_pick_t rfl (by conv => lhs; whnf) rfl rfl ?_
                  refine r_move (by conv => lhs; whnf) rfl rfl ?_
                  refine r_call rfl (c15 _ (hP.ext hS.ext)) rfl rfl ?_
                  rintro _ w44 ⟨rfl, hE⟩
                  have hS := hS.step hE
                  refine r_pick_t rfl (by conv => lhs; whnf) rfl rfl ?_
                  refine r_assign (by conv => lhs; whnf) rfl rfl ?_
                  refine wpl_nil ?_
                  refine thn ?_
                  refine ret1 (fun _ _ _ => rfl) (by conv => lhs; whnf) ?_
                  exact ⟨rfl, hS.ext⟩
              · -- False
                have hb400 := hb40
                (try simp only [decide_eq_true_eq, decide_eq_false_iff_not, Bool.and_eq_true, Bool.and_eq_false_iff, Bool.not_eq_true', Bool.not_eq_false', Int.not_lt, Int.not_le] at hb40)
                refine r_skip rfl rfl ?_
                refine r_skip rfl rfl ?_
                refine r_skip rfl rfl ?_
                refine r_pick_f rfl (by conv => lhs; whnf) rfl rfl ?_
                refine r_move (by conv => lhs; whnf) rfl rfl ?_
                refine r_move (by conv => lhs; whnf) rfl rfl ?_
                refine r_eqlv rfl rfl (decide_eq_true (by omega)) rfl rfl ?_
                refine r_pick_f rfl (by conv => lhs; whnf) rfl rfl ?_
                refine r_pick_t rfl (by conv => lhs; whnf) rfl rfl ?_
                refine r_move (by conv => lhs; whnf) rfl rfl ?_
                refine r_call rfl (c15 _ (hP.ext hS.ext)) rfl rfl ?_
                rintro _ w46 ⟨rfl, hE⟩
                have hS := hS.step hE
                refine r_pick_t rfl (by conv => lhs; whnf) rfl rfl ?_
                refine r_assign (by conv => lhs; whnf) rfl rfl ?_
                refine wpl_nil ?_
                refine thn ?_
                refine ret1 (fun _ _ _ => rfl) (by conv => lhs; whnf) ?_
                exact ⟨rfl, hS.ext⟩
          · -- False
            skip
            have hl0 : 0 < b.lacksV.length := by
              rcases hpos with h | h
              · exact absurd (h.symm.trans hb36) (by decide)
              · exact h
            refine r_move (by conv => lhs; whnf) rfl rfl ?_
            refine r_len rfl sl_26 rfl rfl ?_
            refine r_gtrv rfl rfl (decide_eq_true (by omega)) rfl rfl ?_
            refine r_pick_f rfl (by conv => lhs; whnf) rfl rfl ?_
            refine r_pick_t rfl (by conv => lhs; whnf) rfl rfl ?_
            refine r_move (by conv => lhs; whnf) rfl rfl ?_
            refine r_move (by conv => lhs; whnf) rfl rfl ?_
            refine r_eql rfl rfl rfl rfl ?_
            refine r_moveb rfl rfl rfl (fun hb48 => ?_) (fun hb48 => ?_)
            · -- True
              skip
              have hb2 := hbuy (of_decide_eq_true hb48)
              refine r_skip rfl rfl ?_
              refine r_skip rfl rfl ?_
              refine r_pick_t rfl (by conv => lhs; whnf) rfl rfl ?_
              refine r_pick_t rfl (by conv => lhs; whnf) rfl rfl ?_
              refine r_move (by conv => lhs; whnf) rfl rfl ?_
              refine r_move (by conv => lhs; whnf) rfl rfl ?_
              refine r_eqlv rfl rfl (decide_eq_true hb2.1) rfl rfl ?_
              refine r_move (by conv => lhs; whnf) rfl rfl ?_
              refine r_move (by conv => lhs; whnf) rfl rfl ?_
              refine r_move (by conv => lhs; whnf) rfl rfl ?_
              refine r_leqv rfl rfl (decide_eq_true hb2.2) rfl rfl ?_
              refine r_pick_t rfl (by conv => lhs; whnf) rfl rfl ?_
              refine r_move (by conv => lhs; whnf) rfl rfl ?_
              refine r_skip rfl rfl ?_
              refine r_skip rfl rfl ?_
              refine r_pick_t rfl (by conv => lhs; whnf) rfl rfl ?_
              refine r_pick_t rfl (by conv => lhs; whnf) rfl rfl ?_
              refine r_move (by conv => lhs; whnf) rfl rfl ?_
              refine r_call rfl (c15 _ (hP.ext hS.ext)) rfl rfl ?_
              rintro _ w49 ⟨rfl, hE⟩
              have hS := hS.step hE
              refine r_pick_t rfl (by conv => lhs; whnf) rfl rfl ?_
              refine r_assign (by conv => lhs; whnf) rfl rfl ?_
              refine wpl_nil ?_
              refine thn ?_
              refine ret1 (fun _ _ _ => rfl) (by conv => lhs; whnf) ?_
              exact ⟨rfl, hS.ext⟩
            · -- False
              skip
              have hE4 : b.buyE s = 4 := by
                rcases hbe with h | h
                · exact absurd h (of_decide_eq_false hb48)
                · exact h
              refine r_move (by conv => lhs; whnf) rfl rfl ?_
              refine r_eqlv rfl rfl (decide_eq_true (by omega)) rfl rfl ?_
              refine r_pick_f rfl (by conv => lhs; whnf) rfl rfl ?_
              refine r_pick_t rfl (by conv => lhs; whnf) rfl rfl ?_
              refine r_move (by conv => lhs; whnf) rfl rfl ?_
              refine r_move (by conv => lhs; whnf) rfl rfl ?_
              refine r_eql rfl rfl rfl rfl ?_
              refine r_moveb rfl rfl rfl (fun hb51 => ?_) (fun hb51 => ?_)
              · -- True
                have hb510 := hb51
                (try simp only [decide_eq_true_eq, decide_eq_false_iff_not, Bool.and_eq_true, Bool.and_eq_false_iff, Bool.not_eq_true', Bool.not_eq_false', Int.not_lt, Int.not_le] at hb51)
                refine r_move (by conv => lhs; whnf) rfl rfl ?_
                refine r_move (by conv => lhs; whnf) rfl rfl ?_
                refine r_leq rfl rfl rfl rfl ?_
                refine r_pick_t rfl (by conv => lhs; whnf) rfl rfl ?_
                refine r_moveb rfl rfl rfl (fun hb52 => ?_) (fun hb52 => ?_)
                · -- True
                  have hb520 := hb52
                  (try simp only [decide_eq_true_eq, decide_eq_false_iff_not, Bool.and_eq_true, Bool.and_eq_false_iff, Bool.not_eq_true', Bool.not_eq_false', Int.not_lt, Int.not_le] at hb52)
                  refine r_skip rfl rfl ?_
                  refine r_skip rfl rfl ?_
                  refine r_pick_t rfl (by conv => lhs; whnf) rfl rfl ?_
                  refine r_pick_t rfl (by conv => lhs; whnf) rfl rfl ?_
                  refine r_move (by conv => lhs; whnf) rfl rfl ?_
                  refine r_call rfl (c15 _ (hP.ext hS.ext)) rfl rfl ?_
                  rintro _ w53 ⟨rfl, hE⟩
                  have hS := hS.step hE
                  refine r_pick_t rfl (by conv => lhs; whnf) rfl rfl ?_
                  refine r_assign (by conv => lhs; whnf) rfl rfl ?_
                  refine wpl_nil ?_
                  refine thn ?_
                  refine ret1 (fun _ _ _ => rfl) (by conv => lhs; whnf) ?_
                  exact ⟨rfl, hS.ext⟩
                · -- False
                  have hb520 := hb52
                  (try simp only [decide_eq_true_eq, decide_eq_false_iff_not, Bool.and_eq_true, Bool.and_eq_false_iff, Bool.not_eq_true', Bool.not_eq_false', Int.not_lt, Int.not_le] at hb52)
                  refine r_move (by conv => lhs; whnf) rfl rfl ?_
                  refine r_eqlv rfl rfl (decide_eq_true (by omega)) rfl rfl ?_
                  refine r_pick_f rfl (by conv => lhs; whnf) rfl rfl ?_
                  refine r_pick_t rfl (by conv => lhs; whnf) rfl rfl ?_
                  refine r_move (by conv => lhs; whnf) rfl rfl ?_
                  refine r_call rfl (c15 _ (hP.ext hS.ext)) rfl rfl ?_
                  rintro _ w55 ⟨rfl, hE⟩
                  have hS := hS.step hE
                  refine r_pick_t rfl (by conv => lhs; whnf) rfl rfl ?_
                  refine r_assign (by conv => lhs; whnf) rfl rfl ?_
                  refine wpl_nil ?_
                  refine thn ?_
                  refine ret1 (fun _ _ _ => rfl) (by conv => lhs; whnf) ?_
                  exact ⟨rfl, hS.ext⟩
              · -- False
                have hb510 := hb51
                (try simp only [decide_eq_true_eq, decide_eq_false_iff_not, Bool.and_eq_true, Bool.and_eq_false_iff, Bool.not_eq_true', Bool.not_eq_false', Int.not_lt, Int.not_le] at hb51)
                refine r_skip rfl rfl ?_
                refine r_skip rfl rfl ?_
                refine r_skip rfl rfl ?_
                refine r_pick_f rfl (by conv => lhs; whnf) rfl rfl ?_
                refine r_move (by conv => lhs; whnf) rfl rfl ?_
                refine r_move (by conv => lhs; whnf) rfl rfl ?_
                refine r_eqlv rfl rfl (decide_eq_true (by omega)) rfl rfl ?_
                refine r_pick_f rfl (by conv => lhs; whnf) rfl rfl ?_
                refine r_pick_t rfl (by conv => lhs; whnf) rfl rfl ?_
                refine r_move (by conv => lhs; whnf) rfl rfl ?_
                refine r_call rfl (c15 _ (hP.ext hS.ext)) rfl rfl ?_
                rintro _ w57 ⟨rfl, hE⟩
                have hS := hS.step hE
                refine r_pick_t rfl (by conv => lhs; whnf) rfl rfl ?_
                refine r_assign (by conv => lhs; whnf) rfl rfl ?_
                refine wpl_nil ?_
                refine thn ?_
                refine ret1 (fun _ _ _ => rfl) (by conv => lhs; whnf) ?_
                exact ⟨rfl, hS.ext⟩
        · -- False
          skip
          have hpb : b.perhapsV = false := by
            cases h : b.perhapsV with
            | false => rfl
            | true => exact absurd ((hper h).symm.trans hb35) (by decide)
          refine r_move (by conv => lhs; whnf) rfl rfl ?_
          refine r_notv rfl (by rw [hpb]) rfl rfl ?_
          refine r_pick_f rfl (by conv => lhs; whnf) rfl rfl ?_
          refine r_pick_t rfl (by conv => lhs; whnf) rfl rfl ?_
          refine r_move (by conv => lhs; whnf) rfl rfl ?_
          refine r_move (by conv => lhs; whnf) rfl rfl ?_
          refine r_moveb rfl rfl rfl (fun hb59 => ?_) (fun hb59 => ?_)
          · -- True
            skip
            refine r_skip rfl rfl ?_
            refine r_skip rfl rfl ?_
            refine r_skip rfl rfl ?_
            refine r_pick_t rfl (by conv => lhs; whnf) rfl rfl ?_
            refine r_pick_t rfl (by conv => lhs; whnf) rfl rfl ?_
            refine r_move (by conv => lhs; whnf) rfl rfl ?_
            refine r_move (by conv => lhs; whnf) rfl rfl ?_
            refine r_eql rfl rfl rfl rfl ?_
            refine r_moveb rfl rfl rfl (fun hb60 => ?_) (fun hb60 => ?_)
            · -- True
              skip
              have hb2 := hbuy (of_decide_eq_true hb60)
              refine r_skip rfl rfl ?_
              refine r_skip rfl rfl ?_
              refine r_pick_t rfl (by conv => lhs; whnf) rfl rfl ?_
              refine r_pick_t rfl (by conv => lhs; whnf) rfl rfl ?_
              refine r_move (by conv => lhs; whnf) rfl rfl ?_
              refine r_move (by conv => lhs; whnf) rfl rfl ?_
              refine r_eqlv rfl rfl (decide_eq_true hb2.1) rfl rfl ?_
              refine r_move (by conv => lhs; whnf) rfl rfl ?_
              refine r_move (by conv => lhs; whnf) rfl rfl ?_
              refine r_move (by conv => lhs; whnf) rfl rfl ?_
              refine r_leqv rfl rfl (decide_eq_true hb2.2) rfl rfl ?_
              refine r_pick_t rfl (by conv => lhs; whnf) rfl rfl ?_
              refine r_move (by conv => lhs; whnf) rfl rfl ?_
              refine r_skip rfl rfl ?_
              refine r_skip rfl rfl ?_
              refine r_pick_t rfl (by conv => lhs; whnf) rfl rfl ?_
              refine r_pick_t rfl (by conv => lhs; whnf) rfl rfl ?_
              refine r_move (by conv => lhs; whnf) rfl rfl ?_
              refine r_call rfl (c15 _ (hP.ext hS.ext)) rfl rfl ?_
              rintro _ w61 ⟨rfl, hE⟩
              have hS := hS.step hE
              refine r_pick_t rfl (by conv => lhs; whnf) rfl rfl ?_
              refine r_assign (by conv => lhs; whnf) rfl rfl ?_
              refine wpl_nil ?_
              refine thn ?_
              refine ret1 (fun _ _ _ => rfl) (by conv => lhs; whnf) ?_
              exact ⟨rfl, hS.ext⟩
            · -- False
              skip
              have hE4 : b.buyE s = 4 := by
                rcases hbe with h | h
                · exact absurd h (of_decide_eq_false hb60)
                · exact h
              refine r_move (by conv => lhs; whnf) rfl rfl ?_
              refine r_eqlv rfl rfl (decide_eq_true (by omega)) rfl rfl ?_
              refine r_pick_f rfl (by conv => lhs; whnf) rfl rfl ?_
              refine r_pick_t rfl (by conv => lhs; whnf) rfl rfl ?_
              refine r_move (by conv => lhs; whnf) rfl rfl ?_
              refine r_move (by conv => lhs; whnf) rfl rfl ?_
              refine r_eql rfl rfl rfl rfl ?_
              refine r_moveb rfl rfl rfl (fun hb63 => ?_) (fun hb63 => ?_)
              · -- True
                have hb630 := hb63
                (try simp only [decide_eq_true_eq, decide_eq_false_iff_not, Bool.and_eq_true, Bool.and_eq_false_iff, Bool.not_eq_true', Bool.not_eq_false', Int.not_lt, Int.not_le] at hb63)
                refine r_move (by conv => lhs; whnf) rfl rfl ?_
                refine r_move (by conv => lhs; whnf) rfl rfl ?_
                refine r_leq rfl rfl rfl rfl ?_
                refine r_pick_t rfl (by conv => lhs; whnf) rfl rfl ?_
                refine r_moveb rfl rfl rfl (fun hb64 => ?_) (fun hb64 => ?_)
                · -- True
                  have hb640 := hb64
                  (try simp only [decide_eq_true_eq, decide_eq_false_iff_not, Bool.and_eq_true, Bool.and_eq_false_iff, Bool.not_eq_true', Bool.not_eq_false', Int.not_lt, Int.not_le] at hb64)
                  refine r_skip rfl rfl ?_
                  refine r_skip rfl rfl ?_
                  refine r_pick_t rfl (by conv => lhs; whnf) rfl rfl ?_
                  refine r_pick_t rfl (by conv => lhs; whnf) rfl rfl ?_
                  refine r_move (by conv => lhs; whnf) rfl rfl ?_
                  refine r_call rfl (c15 _ (hP.ext hS.ext)) rfl rfl ?_
                  rintro _ w65 ⟨rfl, hE⟩
                  have hS := hS.step hE
                  refine r_pick_t rfl (by conv => lhs; whnf) rfl rfl ?_
                  refine r_assign (by conv => lhs; whnf) rfl rfl ?_
                  refine wpl_nil ?_
                  refine thn ?_
                  refine ret1 (fun _ _ _ => rfl) (by conv => lhs; whnf) ?_
                  exact ⟨rfl, hS.ext⟩
                · -- False
                  have hb640 := hb64
                  (try simp only [decide_eq_true_eq, decide_eq_false_iff_not, Bool.and_eq_true, Bool.and_eq_false_iff, Bool.not_eq_true', Bool.not_eq_false', Int.not_lt, Int.not_le] at hb64)
                  refine r_move (by conv => lhs; whnf) rfl rfl ?_
                  refine r_eqlv rfl rfl (decide_eq_true (by omega)) rfl rfl ?_
                  refine r_pick_f rfl (by conv => lhs; whnf) rfl rfl ?_
                  refine r_pick_t rfl (by conv => lhs; whnf) rfl rfl ?_
                  refine r_move (by conv => lhs; whnf) rfl rfl ?_
                  refine r_call rfl (c15 _ (hP.ext hS.ext)) rfl rfl ?_
                  rintro _ w67 ⟨rfl, hE⟩
                  have hS := hS.step hE
                  refine r_pick_t rfl (by conv => lhs; whnf) rfl rfl ?_
                  refine r_assign (by conv => lhs; whnf) rfl rfl ?_
                  refine wpl_nil ?_
                  refine thn ?_
                  refine ret1 (fun _ _ _ => rfl) (by conv => lhs; whnf) ?_
                  exact ⟨rfl, hS.ext⟩
              · -- False
                have hb630 := hb63
                (try simp only [decide_eq_true_eq, decide_eq_false_iff_not, Bool.and_eq_true, Bool.and_eq_false_iff, Bool.not_eq_true', Bool.not_eq_false', Int.not_lt, Int.not_le] at hb63)
                refine r_skip rfl rfl ?_
                refine r_skip rfl rfl ?_
                refine r_skip rfl rfl ?_
                refine r_pick_f rfl (by conv => lhs; whnf) rfl rfl ?_
                refine r_move (by conv => lhs; whnf) rfl rfl ?_
                refine r_move (by conv => lhs; whnf) rfl rfl ?_
                refine r_eqlv rfl rfl (decide_eq_true (by omega)) rfl rfl ?_
                refine r_pick_f rfl (by conv => lhs; whnf) rfl rfl ?_
                refine r_pick_t rfl (by conv => lhs; whnf) rfl rfl ?_
                refine r_move (by conv => lhs; whnf) rfl rfl ?_
                refine r_call rfl (c15 _ (hP.ext hS.ext)) rfl rfl ?_
                rintro _ w69 ⟨rfl, hE⟩
                have hS := hS.step hE
                refine r_pick_t rfl (by conv => lhs; whnf) rfl rfl ?_
                refine r_assign (by conv => lhs; whnf) rfl rfl ?_
                refine wpl_nil ?_
                refine thn ?_
                refine ret1 (fun _ _ _ => rfl) (by conv => lhs; whnf) ?_
                exact ⟨rfl, hS.ext⟩
          · -- False
            skip
            have hl0 : 0 < b.lacksV.length := by
              rcases hpos with h | h
              · exact absurd (h.symm.trans hb59) (by decide)
              · exact h
            refine r_move (by conv => lhs; whnf) rfl rfl ?_
            refine r_len rfl sl_26 rfl rfl ?_
            refine r_gtrv rfl rfl (decide_eq_true (by omega)) rfl rfl ?_
            refine r_pick_f rfl (by conv => lhs; whnf) rfl rfl ?_
            refine r_pick_t rfl (by conv => lhs; whnf) rfl rfl ?_
            refine r_move (by conv => lhs; whnf) rfl rfl ?_
            refine r_move (by conv => lhs; whnf) rfl rfl ?_
            refine r_eql rfl rfl rfl rfl ?_
            refine r_moveb rfl rfl rfl (fun hb71 => ?_) (fun hb71 => ?_)
            · -- True
              skip
              have hb2 := hbuy (of_decide_eq_true hb71)
              refine r_skip rfl rfl ?_
              refine r_skip rfl rfl ?_
              refine r_pick_t rfl (by conv => lhs; whnf) rfl rfl ?_
              refine r_pick_t rfl (by conv => lhs; whnf) rfl rfl ?_
              refine r_move (by conv => lhs; whnf) rfl rfl ?_
              refine r_move (by conv => lhs; whnf) rfl rfl ?_
              refine r_eqlv rfl rfl (decide_eq_true hb2.1) rfl rfl ?_
              refine r_move (by conv => lhs; whnf) rfl rfl ?_
              refine r_move (by conv => lhs; whnf) rfl rfl ?_
              refine r_move (by conv => lhs; whnf) rfl rfl ?_
              refine r_leqv rfl rfl (decide_eq_true hb2.2) rfl rfl ?_
              refine r_pick_t rfl (by conv => lhs; whnf) rfl rfl ?_
              refine r_move (by conv => lhs; whnf) rfl rfl ?_
              refine r_skip rfl rfl ?_
              refine r_skip rfl rfl ?_
              refine r_pick_t rfl (by conv => lhs; whnf) rfl rfl ?_
              refine r_pick_t rfl (by conv => lhs; whnf) rfl rfl ?_
              refine r_move (by conv => lhs; whnf) rfl rfl ?_
              refine r_call rfl (c15 _ (hP.ext hS.ext)) rfl rfl ?_
              rintro _ w72 ⟨rfl, hE⟩
              have hS := hS.step hE
              refine r_pick_t rfl (by conv => lhs; whnf) rfl rfl ?_
              refine r_assign (by conv => lhs; whnf) rfl rfl ?_
              refine wpl_nil ?_
              refine thn ?_
              refine ret1 (fun _ _ _ => rfl) (by conv => lhs; whnf) ?_
              exact ⟨rfl, hS.ext⟩
            · -- False
              skip
              have hE4 : b.buyE s = 4 := by
                rcases hbe with h | h
                · exact absurd h (of_decide_eq_false hb71)
                · exact h
              refine r_move (by conv => lhs; whnf) rfl rfl ?_
              refine r_eqlv rfl rfl (decide_eq_true (by omega)) rfl rfl ?_
              refine r_pick_f rfl (by conv => lhs; whnf) rfl rfl ?_
              refine r_pick_t rfl (by conv => lhs; whnf) rfl rfl ?_
              refine r_move (by conv => lhs; whnf) rfl rfl ?_
              refine r_move (by conv => lhs; whnf) rfl rfl ?_
              refine r_eql rfl rfl rfl rfl ?_
              refine r_moveb rfl rfl rfl (fun hb74 => ?_) (fun hb74 => ?_)
              · -- True
                have hb740 := hb74
                (try simp only [decide_eq_true_eq, decide_eq_false_iff_not, Bool.and_eq_true, Bool.and_eq_false_iff, Bool.not_eq_true', Bool.not_eq_false', Int.not_lt, Int.not_le] at hb74)
                refine r_move (by conv => lhs; whnf) rfl rfl ?_
                refine r_move (by conv => lhs; whnf) rfl rfl ?_
                refine r_leq rfl rfl rfl rfl ?_
                refine r_pick_t rfl (by conv => lhs; whnf) rfl rfl ?_
                refine r_moveb rfl rfl rfl (fun hb75 => ?_) (fun hb75 => ?_)
                · -- True
                  have hb750 := hb75
                  (try simp only [decide_eq_true_eq, decide_eq_false_iff_not, Bool.and_eq_true, Bool.and_eq_false_iff, Bool.not_eq_true', Bool.not_eq_false', Int.not_lt, Int.not_le] at hb75)
                  refine r_skip rfl rfl ?_
                  refine r_skip rfl rfl ?_
                  refine r_pick_t rfl (by conv => lhs; whnf) rfl rfl ?_
                  refine r_pick_t rfl (by conv => lhs; whnf) rfl rfl ?_
                  refine r_move (by conv => lhs; whnf) rfl rfl ?_
                  refine r_call rfl (c15 _ (hP.ext hS.ext)) rfl rfl ?_
                  rintro _ w76 ⟨rfl, hE⟩
                  have hS := hS.step hE
                  refine r_pick_t rfl (by conv => lhs; whnf) rfl rfl ?_
                  refine r_assign (by conv => lhs; whnf) rfl rfl ?_
                  refine wpl_nil ?_
                  refine thn ?_
                  refine ret1 (fun _ _ _ => rfl) (by conv => lhs; whnf) ?_
                  exact ⟨rfl, hS.ext⟩
                · -- False
                  have hb750 := hb75
                  (try simp only [decide_eq_true_eq, decide_eq_false_iff_not, Bool.and_eq_true, Bool.and_eq_false_iff, Bool.not_eq_true', Bool.not_eq_false', Int.not_lt, Int.not_le] at hb75)
                  refine r_move (by conv => lhs; whnf) rfl rfl ?_
                  refine r_eqlv rfl rfl (decide_eq_true (by omega)) rfl rfl ?_
                  refine r_pick_f rfl (by conv => lhs; whnf) rfl rfl ?_
                  refine r_pick_t rfl (by conv => lhs; whnf) rfl rfl ?_
                  refine r_move (by conv => lhs; whnf) rfl rfl ?_
                  refine r_call rfl (c15 _ (hP.ext hS.ext)) rfl rfl ?_
                  rintro _ w78 ⟨rfl, hE⟩
                  have hS := hS.step hE
                  refine r_pick_t rfl (by conv => lhs; whnf) rfl rfl ?_
                  refine r_assign (by conv => lhs; whnf) rfl rfl ?_
                  refine wpl_nil ?_
                  refine thn ?_
                  refine ret1 (fun _ _ _ => rfl) (by conv => lhs; whnf) ?_
                  exact ⟨rfl, hS.ext⟩
              · -- False
                have hb740 := hb74
                (try simp only [decide_eq_true_eq, decide_eq_false_iff_not, Bool.and_eq_true, Bool.and_eq_false_iff, Bool.not_eq_true', Bool.not_eq_false', Int.not_lt, Int.not_le] at hb74)
                refine r_skip rfl rfl ?_
                refine r_skip rfl rfl ?_
                refine r_skip rfl rfl ?_
                refine r_pick_f rfl (by conv => lhs; whnf) rfl rfl ?_
                refine r_move (by conv => lhs; whnf) rfl rfl ?_
                refine r_move (by conv => lhs; whnf) rfl rfl ?_
                refine r_eqlv rfl rfl (decide_eq_true (by omega)) rfl rfl ?_
                refine r_pick_f rfl (by conv => lhs; whnf) rfl rfl ?_
                refine r_pick_t rfl (by conv => lhs; whnf) rfl rfl ?_
                refine r_move (by conv => lhs; whnf) rfl rfl ?_
                refine r_call rfl (c15 _ (hP.ext hS.ext)) rfl rfl ?_
                rintro _ w80 ⟨rfl, hE⟩
                have hS := hS.step hE
                refine r_pick_t rfl (by conv => lhs; whnf) rfl rfl ?_
                refine r_assign (by conv => lhs; whnf) rfl rfl ?_
                refine wpl_nil ?_
                refine thn ?_
                refine ret1 (fun _ _ _ => rfl) (by conv => lhs; whnf) ?_
                exact ⟨rfl, hS.ext⟩
      · -- f
        skip
        refine k_skip ?_
        refine thn ?_
        refine k_seq ?_
        (try simp only [List.nil_append, List.cons_append, List.set_cons_zero, List.set_cons_succ] at hS)
        refine k_region ?_
        have hvc : (b.add (1 + r0) s0).valid = true := HBook.add_valid hv hn3 (by omega) hs0
        have hm : More b (b.add (1 + r0) s0) := HBook.add_more
        obtain ⟨s, hsd⟩ : ∃ s, s = roundI m2 21 := ⟨_, rfl⟩
        have hs : 0 ≤ s ∧ s ≤ 20 := by have := roundI_bd (n := m2) (m := 21) (by omega); omega
        have hlen := hm.lacks hv hvc
        have hper := hm.perhaps hv hvc
        have hpos := HBook.lacks_pos hv
        have hbuy := hm.buy hv hvc hs
        have hbe := HBook.buy_err hv hs
        have hckc : (b.add (1 + r0) s0).chk = 0 := by unfold HBook.chk; rw [hvc]; rfl
        have hpe : b.perhapsE = 0 := hck
        have hpec : (b.add (1 + r0) s0).perhapsE = 0 := hckc
        refine r_indexa rfl rfl ar_58 (by omega) rfl rfl ?_
        refine r_load rfl (ld_bs hS (i := 1) rfl rfl sc_3) rfl rfl ?_
        refine r_call rfl (c17 _ m2 _ (by omega)) rfl rfl ?_
        rintro _ w81 ⟨rfl, hE⟩
        have hS := hS.step hE
        rw [← hsd]
        refine r_assign (by conv => lhs; whnf) rfl rfl ?_
        refine wpl_nil ?_
        refine thn ?_
        refine k_seq ?_
        (try simp only [List.nil_append, List.cons_append, List.set_cons_zero, List.set_cons_succ] at hS)
        refine k_region ?_
        refine r_load rfl (ld_ba hS (i := 0) rfl rfl rfl ag_25) rfl rfl ?_
        refine r_call rfl (c27 _ b A1 A2 n1 c1 n2 c2 (h1.ext hS.ext) (h2.ext hS.ext) (hP.ext hS.ext)) rfl rfl ?_
        rintro _ w82 ⟨aq82, cq82, hv82, hE, _, _⟩
        simp only [hck] at hv82
        subst hv82
        have hS := hS.step hE
        refine r_move (by conv => lhs; whnf) rfl rfl ?_
        refine r_extract rfl rfl rfl rfl ?_
        refine r_extract rfl rfl rfl rfl ?_
        refine r_assign (by conv => lhs; whnf) rfl rfl ?_
        refine r_assign (by conv => lhs; whnf) rfl rfl ?_
        refine wpl_nil ?_
        refine thn ?_
        refine k_seq ?_
        (try simp only [List.nil_append, List.cons_append, List.set_cons_zero, List.set_cons_succ] at hS)
        refine k_region ?_
        refine r_load rfl (ld_ba hS (i := 2) rfl rfl rfl ag_25) rfl rfl ?_
        refine r_call rfl (c27 _ (b.add (1 + r0) s0) aN A2 (n1 + 1) cN n2 c2 (row_rdrow henc_len (hS.get (i := 3) rfl) (by simp [hl1]) (by simp; omega)) (h2.ext hS.ext) (hP.ext hS.ext)) rfl rfl ?_
        rintro _ w83 ⟨aq83, cq83, hv83, hE, _, _⟩
        simp only [hckc] at hv83
        subst hv83
        have hS := hS.step hE
        refine r_move (by conv => lhs; whnf) rfl rfl ?_
        refine r_extract rfl rfl rfl rfl ?_
        refine r_extract rfl rfl rfl rfl ?_
        refine r_assign (by conv => lhs; whnf) rfl rfl ?_
        refine r_assign (by conv => lhs; whnf) rfl rfl ?_
        refine wpl_nil ?_
        refine thn ?_
        refine k_seq ?_
        (try simp only [List.nil_append, List.cons_append, List.set_cons_zero, List.set_cons_succ] at hS)
        refine k_region ?_
        refine r_load rfl (ld_ba hS (i := 0) rfl rfl rfl ag_25) rfl rfl ?_
        refine r_call rfl (c36 _ b A1 A2 n1 c1 n2 c2 (h1.ext hS.ext) (h2.ext hS.ext) (hP.ext hS.ext)) rfl rfl ?_
        rintro _ w84 ⟨hv84, hE⟩
        simp only [hpe] at hv84
        subst hv84
        have hS := hS.step hE
        refine r_move (by conv => lhs; whnf) rfl rfl ?_
        refine r_extract rfl rfl rfl rfl ?_
        refine r_extract rfl rfl rfl rfl ?_
        refine r_assign (by conv => lhs; whnf) rfl rfl ?_
        refine r_assign (by conv => lhs; whnf) rfl rfl ?_
        refine wpl_nil ?_
        refine thn ?_
        refine k_seq ?_
        (try simp only [List.nil_append, List.cons_append, List.set_cons_zero, List.set_cons_succ] at hS)
        refine k_region ?_
        refine r_load rfl (ld_ba hS (i := 2) rfl rfl rfl ag_25) rfl rfl ?_
        refine r_call rfl (c36 _ (b.add (1 + r0) s0) aN A2 (n1 + 1) cN n2 c2 (row_rdrow henc_len (hS.get (i := 3) rfl) (by simp [hl1]) (by simp; omega)) (h2.ext hS.ext) (hP.ext hS.ext)) rfl rfl ?_
        rintro _ w85 ⟨hv85, hE⟩
        simp only [hpec] at hv85
        subst hv85
        have hS := hS.step hE
        refine r_move (by conv => lhs; whnf) rfl rfl ?_
        refine r_extract rfl rfl rfl rfl ?_
        refine r_extract rfl rfl rfl rfl ?_
        refine r_assign (by conv => lhs; whnf) rfl rfl ?_
        refine r_assign (by conv => lhs; whnf) rfl rfl ?_
        refine wpl_nil ?_
        refine thn ?_
        refine k_seq ?_
        (try simp only [List.nil_append, List.cons_append, List.set_cons_zero, List.set_cons_succ] at hS)
        refine k_region ?_
        refine r_load rfl (ld_ba hS (i := 0) rfl rfl rfl ag_25) rfl rfl ?_
        refine r_move (by conv => lhs; whnf) rfl rfl ?_
        refine r_call rfl (c33 _ b A1 A2 n1 c1 n2 c2 (h1.ext hS.ext) (h2.ext hS.ext) (hP.ext hS.ext) hcap s) rfl rfl ?_
        rintro _ w86 ⟨rfl, hE⟩
        have hS := hS.step hE
        refine r_move (by conv => lhs; whnf) rfl rfl ?_
        refine r_extract rfl rfl rfl rfl ?_
        refine r_extract rfl rfl rfl rfl ?_
        refine r_assign (by conv => lhs; whnf) rfl rfl ?_
        refine r_assign (by conv => lhs; whnf) rfl rfl ?_
        refine wpl_nil ?_
        refine thn ?_
        refine k_seq ?_
        (try simp only [List.nil_append, List.cons_append, List.set_cons_zero, List.set_cons_succ] at hS)
        refine k_region ?_
        refine r_load rfl (ld_ba hS (i := 2) rfl rfl rfl ag_25) rfl rfl ?_
        refine r_move (by conv => lhs; whnf) rfl rfl ?_
        refine r_call rfl (c33 _ (b.add (1 + r0) s0) aN A2 (n1 + 1) cN n2 c2 (row_rdrow henc_len (hS.get (i := 3) rfl) (by simp [hl1]) (by simp; omega)) (h2.ext hS.ext) (hP.ext hS.ext) hcN s) rfl rfl ?_
        rintro _ w87 ⟨rfl, hE⟩
        have hS := hS.step hE
        refine r_move (by conv => lhs; whnf) rfl rfl ?_
        refine r_extract rfl rfl rfl rfl ?_
        refine r_extract rfl rfl rfl rfl ?_
        refine r_assign (by conv => lhs; whnf) rfl rfl ?_
        refine r_assign (by conv => lhs; whnf) rfl rfl ?_
        refine wpl_nil ?_
        refine thn ?_
        refine k_seq ?_
        (try simp only [List.nil_append, List.cons_append, List.set_cons_zero, List.set_cons_succ] at hS)
        refine k_region ?_
        refine r_move (by conv => lhs; whnf) rfl rfl ?_
        refine r_eql rfl rfl rfl rfl ?_
        refine r_move (by conv => lhs; whnf) rfl rfl ?_
        refine r_move (by conv => lhs; whnf) rfl rfl ?_
        refine r_eql rfl rfl rfl rfl ?_
        refine r_pick_t rfl (by conv => lhs; whnf) rfl rfl ?_
        refine r_move (by conv => lhs; whnf) rfl rfl ?_
        refine r_move (by conv => lhs; whnf) rfl rfl ?_
        refine r_eql rfl rfl rfl rfl ?_
        refine r_pick_t rfl (by conv => lhs; whnf) rfl rfl ?_
        refine r_move (by conv => lhs; whnf) rfl rfl ?_
        refine r_move (by conv => lhs; whnf) rfl rfl ?_
        refine r_eql rfl rfl rfl rfl ?_
        refine r_pick_t rfl (by conv => lhs; whnf) rfl rfl ?_
        refine r_move (by conv => lhs; whnf) rfl rfl ?_
        refine r_move (by conv => lhs; whnf) rfl rfl ?_
        refine r_len rfl sl_26 rfl rfl ?_
        refine r_move (by conv => lhs; whnf) rfl rfl ?_
        refine r_len rfl sl_26 rfl rfl ?_
        refine r_leqv rfl rfl (decide_eq_true (by omega)) rfl rfl ?_
        refine r_pick_t rfl (by conv => lhs; whnf) rfl rfl ?_
        refine r_move (by conv => lhs; whnf) rfl rfl ?_
        refine r_move (by conv => lhs; whnf) rfl rfl ?_
        refine r_moveb rfl rfl rfl (fun hb89 => ?_) (fun hb89 => ?_)
        · -- True
          skip
          refine r_skip rfl rfl ?_
          refine r_skip rfl rfl ?_
          refine r_pick_t rfl (by conv => lhs; whnf) rfl rfl ?_
          refine r_pick_t rfl (by conv => lhs; whnf) rfl rfl ?_
          refine r_move (by conv => lhs; whnf) rfl rfl ?_
          refine r_move (by conv => lhs; whnf) rfl rfl ?_
          refine r_moveb rfl rfl rfl (fun hb90 => ?_) (fun hb90 => ?_)
          · -- True
            skip
            refine r_skip rfl rfl ?_
            refine r_skip rfl rfl ?_
            refine r_skip rfl rfl ?_
            refine r_pick_t rfl (by conv => lhs; whnf) rfl rfl ?_
            refine r_pick_t rfl (by conv => lhs; whnf) rfl rfl ?_
            refine r_move (by conv => lhs; whnf) rfl rfl ?_
            refine r_move (by conv => lhs; whnf) rfl rfl ?_
            refine r_eql rfl rfl rfl rfl ?_
            refine r_moveb rfl rfl rfl (fun hb91 => ?_) (fun hb91 => ?_)
            · -- True
              skip
              have hb2 := hbuy (of_decide_eq_true hb91)
              refine r_skip rfl rfl ?_
              refine r_skip rfl rfl ?_
              refine r_pick_t rfl (by conv => lhs; whnf) rfl rfl ?_
              refine r_pick_t rfl (by conv => lhs; whnf) rfl rfl ?_
              refine r_move (by conv => lhs; whnf) rfl rfl ?_
              refine r_move (by conv => lhs; whnf) rfl rfl ?_
              refine r_eqlv rfl rfl (decide_eq_true hb2.1) rfl rfl ?_
              refine r_move (by conv => lhs; whnf) rfl rfl ?_
              refine r_move (by conv => lhs; whnf) rfl rfl ?_
              refine r_move (by conv => lhs; whnf) rfl rfl ?_
              refine r_leqv rfl rfl (decide_eq_true hb2.2) rfl rfl ?_
              refine r_pick_t rfl (by conv => lhs; whnf) rfl rfl ?_
              refine r_move (by conv => lhs; whnf) rfl rfl ?_
              refine r_skip rfl rfl ?_
              refine r_skip rfl rfl ?_
              refine r_pick_t rfl (by conv => lhs; whnf) rfl rfl ?_
              refine r_pick_t rfl (by conv => lhs; whnf) rfl rfl ?_
              refine r_move (by conv => lhs; whnf) rfl rfl ?_
              refine r_call rfl (c15 _ (hP.ext hS.ext)) rfl rfl ?_
              rintro _ w92 ⟨rfl, hE⟩
              have hS := hS.step hE
              refine r_pick_t rfl (by conv => lhs; whnf) rfl rfl ?_
              refine r_assign (by conv => lhs; whnf) rfl rfl ?_
              refine wpl_nil ?_
              refine thn ?_
              refine ret1 (fun _ _ _ => rfl) (by conv => lhs; whnf) ?_
              exact ⟨rfl, hS.ext⟩
            · -- False
              skip
              have hE4 : b.buyE s = 4 := by
                rcases hbe with h | h
                · exact absurd h (of_decide_eq_false hb91)
                · exact h
              refine r_move (by conv => lhs; whnf) rfl rfl ?_
              refine r_eqlv rfl rfl (decide_eq_true (by omega)) rfl rfl ?_
              refine r_pick_f rfl (by conv => lhs; whnf) rfl rfl ?_
              refine r_pick_t rfl (by conv => lhs; whnf) rfl rfl ?_
              refine r_move (by conv => lhs; whnf) rfl rfl ?_
              refine r_move (by conv => lhs; whnf) rfl rfl ?_
              refine r_eql rfl rfl rfl rfl ?_
              refine r_moveb rfl rfl rfl (fun hb94 => ?_) (fun hb94 => ?_)
              · -- True
                have hb940 := hb94
                (try simp only [decide_eq_true_eq, decide_eq_false_iff_not, Bool.and_eq_true, Bool.and_eq_false_iff, Bool.not_eq_true', Bool.not_eq_false', Int.not_lt, Int.not_le] at hb94)
                refine r_move (by conv => lhs; whnf) rfl rfl ?_
                refine r_move (by conv => lhs; whnf) rfl rfl ?_
                refine r_leq rfl rfl rfl rfl ?_
                refine r_pick_t rfl (by conv => lhs; whnf) rfl rfl ?_
                refine r_moveb rfl rfl rfl (fun hb95 => ?_) (fun hb95 => ?_)
                · -- True
                  have hb950 := hb95
                  (try simp only [decide_eq_true_eq, decide_eq_false_iff_not, Bool.and_eq_true, Bool.and_eq_false_iff, Bool.not_eq_true', Bool.not_eq_false', Int.not_lt, Int.not_le] at hb95)
                  refine r_skip rfl rfl ?_
                  refine r_skip rfl rfl ?_
                  refine r_pick_t rfl (by conv => lhs; whnf) rfl rfl ?_
                  refine r_pick_t rfl (by conv => lhs; whnf) rfl rfl ?_
                  refine r_move (by conv => lhs; whnf) rfl rfl ?_
                  refine r_call rfl (c15 _ (hP.ext hS.ext)) rfl rfl ?_
                  rintro _ w96 ⟨rfl, hE⟩
                  have hS := hS.step hE
                  refine r_pick_t rfl (by conv => lhs; whnf) rfl rfl ?_
                  refine r_assign (by conv => lhs; whnf) rfl rfl ?_
                  refine wpl_nil ?_
                  refine thn ?_
                  refine ret1 (fun _ _ _ => rfl) (by conv => lhs; whnf) ?_
                  exact ⟨rfl, hS.ext⟩
                · -- False
                  have hb950 := hb95
                  (try simp only [decide_eq_true_eq, decide_eq_false_iff_not, Bool.and_eq_true, Bool.and_eq_false_iff, Bool.not_eq_true', Bool.not_eq_false', Int.not_lt, Int.not_le] at hb95)
                  refine r_move (by conv => lhs; whnf) rfl rfl ?_
                  refine r_eqlv rfl rfl (decide_eq_true (by omega)) rfl rfl ?_
                  refine r_pick_f rfl (by conv => lhs; whnf) rfl rfl ?_
                  refine r_pick_t rfl (by conv => lhs; whnf) rfl rfl ?_
                  refine r_move (by conv => lhs; whnf) rfl rfl ?_
                  refine r_call rfl (c15 _ (hP.ext hS.ext)) rfl rfl ?_
                  rintro _ w98 ⟨rfl, hE⟩
                  have hS := hS.step hE
                  refine r_pick_t rfl (by conv => lhs; whnf) rfl rfl ?_
                  refine r_assign (by conv => lhs; whnf) rfl rfl ?_
                  refine wpl_nil ?_
                  refine thn ?_
                  refine ret1 (fun _ _ _ => rfl) (by conv => lhs; whnf) ?_
                  exact ⟨rfl, hS.ext⟩
              · -- False
                have hb940 := hb94
                (try simp only [decide_eq_true_eq, decide_eq_false_iff_not, Bool.and_eq_true, Bool.and_eq_false_iff, Bool.not_eq_true', Bool.not_eq_false', Int.not_lt, Int.not_le] at hb94)
                refine r_skip rfl rfl ?_
                refine r_skip rfl rfl ?_
                refine r_skip rfl rfl ?_
                refine r_pick_f rfl (by conv => lhs; whnf) rfl rfl ?_
                refine r_move (by conv => lhs; whnf) rfl rfl ?_
                refine r_move (by conv => lhs; whnf) rfl rfl ?_
                refine r_eqlv rfl rfl (decide_eq_true (by omega)) rfl rfl ?_
                refine r_pick_f rfl (by conv => lhs; whnf) rfl rfl ?_
                refine r_pick_t rfl (by conv => lhs; whnf) rfl rfl ?_
                refine r_move (by conv => lhs; whnf) rfl rfl ?_
                refine r_call rfl (c15 _ (hP.ext hS.ext)) rfl rfl ?_
                rintro _ w100 ⟨rfl, hE⟩
                have hS := hS.step hE
                refine r_pick_t rfl (by conv => lhs; whnf) rfl rfl ?_
                refine r_assign (by conv => lhs; whnf) rfl rfl ?_
                refine wpl_nil ?_
                refine thn ?_
                refine ret1 (fun _ _ _ => rfl) (by conv => lhs; whnf) ?_
                exact ⟨rfl, hS.ext⟩
          · -- False
            skip
            have hl0 : 0 < b.lacksV.length := by
              rcases hpos with h | h
              · exact absurd (h.symm.trans hb90) (by decide)
              · exact h
            refine r_move (by conv => lhs; whnf) rfl rfl ?_
            refine r_len rfl sl_26 rfl rfl ?_
            refine r_gtrv rfl rfl (decide_eq_true (by omega)) rfl rfl ?_
            refine r_pick_f rfl (by conv => lhs; whnf) rfl rfl ?_
            refine r_pick_t rfl (by conv => lhs; whnf) rfl rfl ?_
            refine r_move (by conv => lhs; whnf) rfl rfl ?_
            refine r_move (by conv => lhs; whnf) rfl rfl ?_
            refine r_eql rfl rfl rfl rfl ?_
            refine r_moveb rfl rfl rfl (fun hb102 => ?_) (fun hb102 => ?_)
            · -- True
              skip
              have hb2 := hbuy (of_decide_eq_true hb102)
              refine r_skip rfl rfl ?_
              refine r_skip rfl rfl ?_
              refine r_pick_t rfl (by conv => lhs; whnf) rfl rfl ?_
              refine r_pick_t rfl (by conv => lhs; whnf) rfl rfl ?_
              refine r_move (by conv => lhs; whnf) rfl rfl ?_
              refine r_move (by conv => lhs; whnf) rfl rfl ?_
              refine r_eqlv rfl rfl (decide_eq_true hb2.1) rfl rfl ?_
              refine r_move (by conv => lhs; whnf) rfl rfl ?_
              refine r_move (by conv => lhs; whnf) rfl rfl ?_
              refine r_move (by conv => lhs; whnf) rfl rfl ?_
              refine r_leqv rfl rfl (decide_eq_true hb2.2) rfl rfl ?_
              refine r_pick_t rfl (by conv => lhs; whnf) rfl rfl ?_
              refine r_move (by conv => lhs; whnf) rfl rfl ?_
              refine r_skip rfl rfl ?_
              refine r_skip rfl rfl ?_
              refine r_pick_t rfl (by conv => lhs; whnf) rfl rfl ?_
              refine r_pick_t rfl (by conv => lhs; whnf) rfl rfl ?_
              refine r_move (by conv => lhs; whnf) rfl rfl ?_
              refine r_call rfl (c15 _ (hP.ext hS.ext)) rfl rfl ?_
              rintro _ w103 ⟨rfl, hE⟩
              have hS := hS.step hE
              refine r_pick_t rfl (by conv => lhs; whnf) rfl rfl ?_
              refine r_assign (by conv => lhs; whnf) rfl rfl ?_
              refine wpl_nil ?_
              refine thn ?_
              refine ret1 (fun _ _ _ => rfl) (by conv => lhs; whnf) ?_
              exact ⟨rfl, hS.ext⟩
            · -- False
              skip
              have hE4 : b.buyE s = 4 := by
                rcases hbe with h | h
                · exact absurd h (of_decide_eq_false hb102)
                · exact h
              refine r_move (by conv => lhs; whnf) rfl rfl ?_
              refine r_eqlv rfl rfl (decide_eq_true (by omega)) rfl rfl ?_
              refine r_pick_f rfl (by conv => lhs; whnf) rfl rfl ?_
              refine r_pick_t rfl (by conv => lhs; whnf) rfl rfl ?_
              refine r_move (by conv => lhs; whnf) rfl rfl ?_
              refine r_move (by conv => lhs; whnf) rfl rfl ?_
              refine r_eql rfl rfl rfl rfl ?_
              refine r_moveb rfl rfl rfl (fun hb105 => ?_) (fun hb105 => ?_)
              · -- True
                have hb1050 := hb105
                (try simp only [decide_eq_true_eq, decide_eq_false_iff_not, Bool.and_eq_true, Bool.and_eq_false_iff, Bool.not_eq_true', Bool.not_eq_false', Int.not_lt, Int.not_le] at hb105)
                refine r_move (by conv => lhs; whnf) rfl rfl ?_
                refine r_move (by conv => lhs; whnf) rfl rfl ?_
                refine r_leq rfl rfl rfl rfl ?_
                refine r_pick_t rfl (by conv => lhs; whnf) rfl rfl ?_
                refine r_moveb rfl rfl rfl (fun hb106 => ?_) (fun hb106 => ?_)
                · -- True
                  have hb1060 := hb106
                  (try simp only [decide_eq_true_eq, decide_eq_false_iff_not, Bool.and_eq_true, Bool.and_eq_false_iff, Bool.not_eq_true', Bool.not_eq_false', Int.not_lt, Int.not_le] at hb106)
                  refine r_skip rfl rfl ?_
                  refine r_skip rfl rfl ?_
                  refine r_pick_t rfl (by conv => lhs; whnf) rfl rfl ?_
                  refine r_pick_t rfl (by conv => lhs; whnf) rfl rfl ?_
                  refine r_move (by conv => lhs; whnf) rfl rfl ?_
                  refine r_call rfl (c15 _ (hP.ext hS.ext)) rfl rfl ?_
                  rintro _ w107 ⟨rfl, hE⟩
                  have hS := hS.step hE
                  refine r_pick_t rfl (by conv => lhs; whnf) rfl rfl ?_
                  refine r_assign (by conv => lhs; whnf) rfl rfl ?_
                  refine wpl_nil ?_
                  refine thn ?_
                  refine ret1 (fun _ _ _ => rfl) (by conv => lhs; whnf) ?_
                  exact ⟨rfl, hS.ext⟩
                · -- False
                  have hb1060 := hb106
                  (try simp only [decide_eq_true_eq, decide_eq_false_iff_not, Bool.and_eq_true, Bool.and_eq_false_iff, Bool.not_eq_true', Bool.not_eq_false', Int.not_lt, Int.not_le] at hb106)
                  refine r_move (by conv => lhs; whnf) rfl rfl ?_
                  refine r_eqlv rfl rfl (decide_eq_true (by omega)) rfl rfl ?_
                  refine r_pick_f rfl (by conv => lhs; whnf) rfl rfl ?_
                  refine r_pick_t rfl (by conv => lhs; whnf) rfl rfl ?_
                  refine r_move (by conv => lhs; whnf) rfl rfl ?_
                  refine r_call rfl (c15 _ (hP.ext hS.ext)) rfl rfl ?_
                  rintro _ w109 ⟨rfl, hE⟩
                  have hS := hS.step hE
                  refine r_pick_t rfl (by conv => lhs; whnf) rfl rfl ?_
                  refine r_assign (by conv => lhs; whnf) rfl rfl ?_
                  refine wpl_nil ?_
                  refine thn ?_
                  refine ret1 (fun _ _ _ => rfl) (by conv => lhs; whnf) ?_
                  exact ⟨rfl, hS.ext⟩
              · -- False
                have hb1050 := hb105
                (try simp only [decide_eq_true_eq, decide_eq_false_iff_not, Bool.and_eq_true, Bool.and_eq_false_iff, Bool.not_eq_true', Bool.not_eq_false', Int.not_lt, Int.not_le] at hb105)
                refine r_skip rfl rfl ?_
                refine r_skip rfl rfl ?_
                refine r_skip rfl rfl ?_
                refine r_pick_f rfl (by conv => lhs; whnf) rfl rfl ?_
                refine r_move (by conv => lhs; whnf) rfl rfl ?_
                refine r_move (by conv => lhs; whnf) rfl rfl ?_
                refine r_eqlv rfl rfl (decide_eq_true (by omega)) rfl rfl ?_
                refine r_pick_f rfl (by conv => lhs; whnf) rfl rfl ?_
                refine r_pick_t rfl (by conv => lhs; whnf) rfl rfl ?_
                refine r_move (by conv => lhs; whnf) rfl rfl ?_
                refine r_call rfl (c15 _ (hP.ext hS.ext)) rfl rfl ?_
                rintro _ w111 ⟨rfl, hE⟩
                have hS := hS.step hE
                refine r_pick_t rfl (by conv => lhs; whnf) rfl rfl ?_
                refine r_assign (by conv => lhs; whnf) rfl rfl ?_
                refine wpl_nil ?_
                refine thn ?_
                refine ret1 (fun _ _ _ => rfl) (by conv => lhs; whnf) ?_
                exact ⟨rfl, hS.ext⟩
        · -- False
          skip
          have hpb : b.perhapsV = false := by
            cases h : b.perhapsV with
            | false => rfl
            | true => exact absurd ((hper h).symm.trans hb89) (by decide)
          refine r_move (by conv => lhs; whnf) rfl rfl ?_
          refine r_notv rfl (by rw [hpb]) rfl rfl ?_
          refine r_pick_f rfl (by conv => lhs; whnf) rfl rfl ?_
          refine r_pick_t rfl (by conv => lhs; whnf) rfl rfl ?_
          refine r_move (by conv => lhs; whnf) rfl rfl ?_
          refine r_move (by conv => lhs; whnf) rfl rfl ?_
          refine r_moveb rfl rfl rfl (fun hb113 => ?_) (fun hb113 => ?_)
          · -- True
            skip
            refine r_skip rfl rfl ?_
            refine r_skip rfl rfl ?_
            refine r_skip rfl rfl ?_
            refine r_pick_t rfl (by conv => lhs; whnf) rfl rfl ?_
            refine r_pick_t rfl (by conv => lhs; whnf) rfl rfl ?_
            refine r_move (by conv => lhs; whnf) rfl rfl ?_
            refine r_move (by conv => lhs; whnf) rfl rfl ?_
            refine r_eql rfl rfl rfl rfl ?_
            refine r_moveb rfl rfl rfl (fun hb114 => ?_) (fun hb114 => ?_)
            · -- True
              skip
              have hb2 := hbuy (of_decide_eq_true hb114)
              refine r_skip rfl rfl ?_
              refine r_skip rfl rfl ?_
              refine r_pick_t rfl (by conv => lhs; whnf) rfl rfl ?_
              refine r_pick_t rfl (by conv => lhs; whnf) rfl rfl ?_
              refine r_move (by conv => lhs; whnf) rfl rfl ?_
              refine r_move (by conv => lhs; whnf) rfl rfl ?_
              refine r_eqlv rfl rfl (decide_eq_true hb2.1) rfl rfl ?_
              refine r_move (by conv => lhs; whnf) rfl rfl ?_
              refine r_move (by conv => lhs; whnf) rfl rfl ?_
              refine r_move (by conv => lhs; whnf) rfl rfl ?_
              refine r_leqv rfl rfl (decide_eq_true hb2.2) rfl rfl ?_
              refine r_pick_t rfl (by conv => lhs; whnf) rfl rfl ?_
              refine r_move (by conv => lhs; whnf) rfl rfl ?_
              refine r_skip rfl rfl ?_
              refine r_skip rfl rfl ?_
              refine r_pick_t rfl (by conv => lhs; whnf) rfl rfl ?_
              refine r_pick_t rfl (by conv => lhs; whnf) rfl rfl ?_
              refine r_move (by conv => lhs; whnf) rfl rfl ?_
              refine r_call rfl (c15 _ (hP.ext hS.ext)) rfl rfl ?_
              rintro _ w115 ⟨rfl, hE⟩
              have hS := hS.step hE
              refine r_pick_t rfl (by conv => lhs; whnf) rfl rfl ?_
              refine r_assign (by conv => lhs; whnf) rfl rfl ?_
              refine wpl_nil ?_
              refine thn ?_
              refine ret1 (fun _ _ _ => rfl) (by conv => lhs; whnf) ?_
              exact ⟨rfl, hS.ext⟩
            · -- False
              skip
              have hE4 : b.buyE s = 4 := by
                rcases hbe with h | h
                · exact absurd h (of_decide_eq_false hb114)
                · exact h
              refine r_move (by conv => lhs; whnf) rfl rfl ?_
              refine r_eqlv rfl rfl (decide_eq_true (by omega)) rfl rfl ?_
              refine r_pick_f rfl (by conv => lhs; whnf) rfl rfl ?_
              refine r_pick_t rfl (by conv => lhs; whnf) rfl rfl ?_
              refine r_move (by conv => lhs; whnf) rfl rfl ?_
              refine r_move (by conv => lhs; whnf) rfl rfl ?_
              refine r_eql rfl rfl rfl rfl ?_
              refine r_moveb rfl rfl rfl (fun hb117 => ?_) (fun hb117 => ?_)
              · -- True
                have hb1170 := hb117
                (try simp only [decide_eq_true_eq, decide_eq_false_iff_not, Bool.and_eq_true, Bool.and_eq_false_iff, Bool.not_eq_true', Bool.not_eq_false', Int.not_lt, Int.not_le] at hb117)
                refine r_move (by conv => lhs; whnf) rfl rfl ?_
                refine r_move (by conv => lhs; whnf) rfl rfl ?_
                refine r_leq rfl rfl rfl rfl ?_
                refine r_pick_t rfl (by conv => lhs; whnf) rfl rfl ?_
                refine r_moveb rfl rfl rfl (fun hb118 => ?_) (fun hb118 => ?_)
                · -- True
                  have hb1180 := hb118
                  (try simp only [decide_eq_true_eq, decide_eq_false_iff_not, Bool.and_eq_true, Bool.and_eq_false_iff, Bool.not_eq_true', Bool.not_eq_false', Int.not_lt, Int.not_le] at hb118)
                  refine r_skip rfl rfl ?_
                  refine r_skip rfl rfl ?_
                  refine r_pick_t rfl (by conv => lhs; whnf) rfl rfl ?_
                  refine r_pick_t rfl (by conv => lhs; whnf) rfl rfl ?_
                  refine r_move (by conv => lhs; whnf) rfl rfl ?_
                  refine r_call rfl (c15 _ (hP.ext hS.ext)) rfl rfl ?_
                  rintro _ w119 ⟨rfl, hE⟩
                  have hS := hS.step hE
                  refine r_pick_t rfl (by conv => lhs; whnf) rfl rfl ?_
                  refine r_assign (by conv => lhs; whnf) rfl rfl ?_
                  refine wpl_nil ?_
                  refine thn ?_
                  refine ret1 (fun _ _ _ => rfl) (by conv => lhs; whnf) ?_
                  exact ⟨rfl, hS.ext⟩
                · -- False
                  have hb1180 := hb118
                  (try simp only [decide_eq_true_eq, decide_eq_false_iff_not, Bool.and_eq_true, Bool.and_eq_false_iff, Bool.not_eq_true', Bool.not_eq_false', Int.not_lt, Int.not_le] at hb118)
                  refine r_move (by conv => lhs; whnf) rfl rfl ?_
                  refine r_eqlv rfl rfl (decide_eq_true (by omega)) rfl rfl ?_
                  refine r_pick_f rfl (by conv => lhs; whnf) rfl rfl ?_
                  refine r_pick_t rfl (by conv => lhs; whnf) rfl rfl ?_
                  refine r_move (by conv => lhs; whnf) rfl rfl ?_
                  refine r_call rfl (c15 _ (hP.ext hS.ext)) rfl rfl ?_
                  rintro _ w121 ⟨rfl, hE⟩
                  have hS := hS.step hE
                  refine r_pick_t rfl (by conv => lhs; whnf) rfl rfl ?_
                  refine r_assign (by conv => lhs; whnf) rfl rfl ?_
                  refine wpl_nil ?_
                  refine thn ?_
                  refine ret1 (fun _ _ _ => rfl) (by conv => lhs; whnf) ?_
                  exact ⟨rfl, hS.ext⟩
              · -- False
                have hb1170 := hb117
                (try simp only [decide_eq_true_eq, decide_eq_false_iff_not, Bool.and_eq_true, Bool.and_eq_false_iff, Bool.not_eq_true', Bool.not_eq_false', Int.not_lt, Int.not_le] at hb117)
                refine r_skip rfl rfl ?_
                refine r_skip rfl rfl ?_
                refine r_skip rfl rfl ?_
                refine r_pick_f rfl (by conv => lhs; whnf) rfl rfl ?_
                refine r_move (by conv => lhs; whnf) rfl rfl ?_
                refine r_move (by conv => lhs; whnf) rfl rfl ?_
                refine r_eqlv rfl rfl (decide_eq_true (by omega)) rfl rfl ?_
                refine r_pick_f rfl (by conv => lhs; whnf) rfl rfl ?_
                refine r_pick_t rfl (by conv => lhs; whnf) rfl rfl ?_
                refine r_move (by conv => lhs; whnf) rfl rfl ?_
                refine r_call rfl (c15 _ (hP.ext hS.ext)) rfl rfl ?_
                rintro _ w123 ⟨rfl, hE⟩
                have hS := hS.step hE
                refine r_pick_t rfl (by conv => lhs; whnf) rfl rfl ?_
                refine r_assign (by conv => lhs; whnf) rfl rfl ?_
                refine wpl_nil ?_
                refine thn ?_
                refine ret1 (fun _ _ _ => rfl) (by conv => lhs; whnf) ?_
                exact ⟨rfl, hS.ext⟩
          · -- False
            skip
            have hl0 : 0 < b.lacksV.length := by
              rcases hpos with h | h
              · exact absurd (h.symm.trans hb113) (by decide)
              · exact h
            refine r_move (by conv => lhs; whnf) rfl rfl ?_
            refine r_len rfl sl_26 rfl rfl ?_
            refine r_gtrv rfl rfl (decide_eq_true (by omega)) rfl rfl ?_
            refine r_pick_f rfl (by conv => lhs; whnf) rfl rfl ?_
            refine r_pick_t rfl (by conv => lhs; whnf) rfl rfl ?_
            refine r_move (by conv => lhs; whnf) rfl rfl ?_
            refine r_move (by conv => lhs; whnf) rfl rfl ?_
            refine r_eql rfl rfl rfl rfl ?_
            refine r_moveb rfl rfl rfl (fun hb125 => ?_) (fun hb125 => ?_)
            · -- True
              skip
              have hb2 := hbuy (of_decide_eq_true hb125)
              refine r_skip rfl rfl ?_
              refine r_skip rfl rfl ?_
              refine r_pick_t rfl (by conv => lhs; whnf) rfl rfl ?_
              refine r_pick_t rfl (by conv => lhs; whnf) rfl rfl ?_
              refine r_move (by conv => lhs; whnf) rfl rfl ?_
              refine r_move (by conv => lhs; whnf) rfl rfl ?_
              refine r_eqlv rfl rfl (decide_eq_true hb2.1) rfl rfl ?_
              refine r_move (by conv => lhs; whnf) rfl rfl ?_
              refine r_move (by conv => lhs; whnf) rfl rfl ?_
              refine r_move (by conv => lhs; whnf) rfl rfl ?_
              refine r_leqv rfl rfl (decide_eq_true hb2.2) rfl rfl ?_
              refine r_pick_t rfl (by conv => lhs; whnf) rfl rfl ?_
              refine r_move (by conv => lhs; whnf) rfl rfl ?_
              refine r_skip rfl rfl ?_
              refine r_skip rfl rfl ?_
              refine r_pick_t rfl (by conv => lhs; whnf) rfl rfl ?_
              refine r_pick_t rfl (by conv => lhs; whnf) rfl rfl ?_
              refine r_move (by conv => lhs; whnf) rfl rfl ?_
              refine r_call rfl (c15 _ (hP.ext hS.ext)) rfl rfl ?_
              rintro _ w126 ⟨rfl, hE⟩
              have hS := hS.step hE
              refine r_pick_t rfl (by conv => lhs; whnf) rfl rfl ?_
              refine r_assign (by conv => lhs; whnf) rfl rfl ?_
              refine wpl_nil ?_
              refine thn ?_
              refine ret1 (fun _ _ _ => rfl) (by conv => lhs; whnf) ?_
              exact ⟨rfl, hS.ext⟩
            · -- False
              skip
              have hE4 : b.buyE s = 4 := by
                rcases hbe with h | h
                · exact absurd h (of_decide_eq_false hb125)
                · exact h
              refine r_move (by conv => lhs; whnf) rfl rfl ?_
              refine r_eqlv rfl rfl (decide_eq_true (by omega)) rfl rfl ?_
              refine r_pick_f rfl (by conv => lhs; whnf) rfl rfl ?_
              refine r_pick_t rfl (by conv => lhs; whnf) rfl rfl ?_
              refine r_move (by conv => lhs; whnf) rfl rfl ?_
              refine r_move (by conv => lhs; whnf) rfl rfl ?_
              refine r_eql rfl rfl rfl rfl ?_
              refine r_moveb rfl rfl rfl (fun hb128 => ?_) (fun hb128 => ?_)
              · -- True
                have hb1280 := hb128
                (try simp only [decide_eq_true_eq, decide_eq_false_iff_not, Bool.and_eq_true, Bool.and_eq_false_iff, Bool.not_eq_true', Bool.not_eq_false', Int.not_lt, Int.not_le] at hb128)
                refine r_move (by conv => lhs; whnf) rfl rfl ?_
                refine r_move (by conv => lhs; whnf) rfl rfl ?_
                refine r_leq rfl rfl rfl rfl ?_
                refine r_pick_t rfl (by conv => lhs; whnf) rfl rfl ?_
                refine r_moveb rfl rfl rfl (fun hb129 => ?_) (fun hb129 => ?_)
                · -- True
                  have hb1290 := hb129
                  (try simp only [decide_eq_true_eq, decide_eq_false_iff_not, Bool.and_eq_true, Bool.and_eq_false_iff, Bool.not_eq_true', Bool.not_eq_false', Int.not_lt, Int.not_le] at hb129)
                  refine r_skip rfl rfl ?_
                  refine r_skip rfl rfl ?_
                  refine r_pick_t rfl (by conv => lhs; whnf) rfl rfl ?_
                  refine r_pick_t rfl (by conv => lhs; whnf) rfl rfl ?_
                  refine r_move (by conv => lhs; whnf) rfl rfl ?_
                  refine r_call rfl (c15 _ (hP.ext hS.ext)) rfl rfl ?_
                  rintro _ w130 ⟨rfl, hE⟩
                  have hS := hS.step hE
                  refine r_pick_t rfl (by conv => lhs; whnf) rfl rfl ?_
                  refine r_assign (by conv => lhs; whnf) rfl rfl ?_
                  refine wpl_nil ?_
                  refine thn ?_
                  refine ret1 (fun _ _ _ => rfl) (by conv => lhs; whnf) ?_
                  exact ⟨rfl, hS.ext⟩
                · -- False
                  have hb1290 := hb129
                  (try simp only [decide_eq_true_eq, decide_eq_false_iff_not, Bool.and_eq_true, Bool.and_eq_false_iff, Bool.not_eq_true', Bool.not_eq_false', Int.not_lt, Int.not_le] at hb129)
                  refine r_move (by conv => lhs; whnf) rfl rfl ?_
                  refine r_eqlv rfl rfl (decide_eq_true (by omega)) rfl rfl ?_
                  refine r_pick_f rfl (by conv => lhs; whnf) rfl rfl ?_
                  refine r_pick_t rfl (by conv => lhs; whnf) rfl rfl ?_
                  refine r_move (by conv => lhs; whnf) rfl rfl ?_
                  refine r_call rfl (c15 _ (hP.ext hS.ext)) rfl rfl ?_
                  rintro _ w132 ⟨rfl, hE⟩
                  have hS := hS.step hE
                  refine r_pick_t rfl (by conv => lhs; whnf) rfl rfl ?_
                  refine r_assign (by conv => lhs; whnf) rfl rfl ?_
                  refine wpl_nil ?_
                  refine thn ?_
                  refine ret1 (fun _ _ _ => rfl) (by conv => lhs; whnf) ?_
                  exact ⟨rfl, hS.ext⟩
              · -- False
                have hb1280 := hb128
                (try simp only [decide_eq_true_eq, decide_eq_false_iff_not, Bool.and_eq_true, Bool.and_eq_false_iff, Bool.not_eq_true', Bool.not_eq_false', Int.not_lt, Int.not_le] at hb128)
                refine r_skip rfl rfl ?_
                refine r_skip rfl rfl ?_
                refine r_skip rfl rfl ?_
                refine r_pick_f rfl (by conv => lhs; whnf) rfl rfl ?_
                refine r_move (by conv => lhs; whnf) rfl rfl ?_
                refine r_move (by conv => lhs; whnf) rfl rfl ?_
                refine r_eqlv rfl rfl (decide_eq_true (by omega)) rfl rfl ?_
                refine r_pick_f rfl (by conv => lhs; whnf) rfl rfl ?_
                refine r_pick_t rfl (by conv => lhs; whnf) rfl rfl ?_
                refine r_move (by conv => lhs; whnf) rfl rfl ?_
                refine r_call rfl (c15 _ (hP.ext hS.ext)) rfl rfl ?_
                rintro _ w134 ⟨rfl, hE⟩
                have hS := hS.step hE
                refine r_pick_t rfl (by conv => lhs; whnf) rfl rfl ?_
                refine r_assign (by conv => lhs; whnf) rfl rfl ?_
                refine wpl_nil ?_
                refine thn ?_
                refine ret1 (fun _ _ _ => rfl) (by conv => lhs; whnf) ?_
                exact ⟨rfl, hS.ext⟩
end Go.Proofs.YtofpabocpcfbfaaDoor

/- Walks: T22. -/
import Derived.Test.YtofpabocpcfbfaaDoorMF
import Derived.Test.YtofpabocpcfbfaaDoorMT2
import Derived.Test.YtofpabocpcfbfaaDoorMD
set_option linter.unusedSimpArgs false
set_option linter.unusedVariables false
namespace Go.Proofs.YtofpabocpcfbfaaDoor
open Go Go.Proofs K

set_option maxHeartbeats 1000000 in
set_option maxRecDepth 100000 in
theorem c3 (w : World) (b : HBook) (A1 A2 : Option Addr) (n1 c1 n2 c2 : Nat) (h1 : RdRow Hank.enc 4 w A1 n1 b.hanks) (h2 : RdRow Horse.enc 3 w A2 n2 b.horses) (hP : Parts w) (bits : List Int) (Ab : Option Addr) (nb cb : Nat) (hbits : RdInts w Ab nb bits) (n : Int) : Cv Tryd.prog 3 #[.agg #[.slice A1 n1 c1, .slice A2 n2 c2, .int .i64 b.dark, .int .i64 b.near, .int .i64 b.mat], .slice Ab nb cb, .int .i64 n] w (fun v w' => v = .bool true ∧ Ext no w w') := by
  refine cv_intro Tryd.func3 rfl rfl Tryd.ntmps3 rfl (by kernel_rfl) ?_
  have hS := St.nil w
  have hl1 := h1.1
  have hl2 := h2.1
  have hb1 := h1.2.1
  have hb2 := h2.2.1
  refine k_seq ?_
  refine k_region ?_
  refine r_boxa hS rfl rfl rfl ?_
  intro b3 w1 hS hE hB3
  refine r_assign (by conv => lhs; whnf) rfl rfl ?_
  refine wpl_nil ?_
  refine thn ?_
  refine k_seq ?_
  refine k_seq ?_
  refine k_region ?_
  refine r_load rfl (ld_ba hS (i := 0) rfl rfl rfl ag_25) rfl rfl ?_
  refine r_call rfl (c14 _ b A1 A2 n1 c1 n2 c2 (h1.ext hS.ext) (h2.ext hS.ext)) rfl rfl ?_
  rintro _ w2 ⟨rfl, hE⟩
  have hS := hS.step hE
  refine r_not rfl rfl rfl ?_
  refine r_moveb rfl rfl rfl (fun hb3 => ?_) (fun hb3 => ?_)
  · -- True
    have hb30 := hb3
    (try simp only [decide_eq_true_eq, decide_eq_false_iff_not, Bool.and_eq_true, Bool.and_eq_false_iff, Bool.not_eq_true', Bool.not_eq_false', Int.not_lt, Int.not_le] at hb3)
    refine r_skip rfl rfl ?_
    refine r_skip rfl rfl ?_
    refine r_skip rfl rfl ?_
    refine r_skip rfl rfl ?_
    refine r_pick_t rfl (by conv => lhs; whnf) rfl rfl ?_
    refine wpl_nil ?_
    refine thn ?_
    refine k_cond_t rfl ?_
    refine k_seq ?_
    refine k_region ?_
    refine r_call rfl (c15 _ (hP.ext hS.ext)) rfl rfl ?_
    rintro _ w4 ⟨rfl, hE⟩
    have hS := hS.step hE
    refine r_assign (by conv => lhs; whnf) rfl rfl ?_
    refine wpl_nil ?_
    refine thn ?_
    refine ret1 (fun _ _ _ => rfl) (by conv => lhs; whnf) ?_
    exact ⟨rfl, hS.ext⟩
  · -- False
    have hb30 := hb3
    (try simp only [decide_eq_true_eq, decide_eq_false_iff_not, Bool.and_eq_true, Bool.and_eq_false_iff, Bool.not_eq_true', Bool.not_eq_false', Int.not_lt, Int.not_le] at hb3)
    have hv : b.valid = true := by simpa using hb3
    refine r_field rfl fl_25_0 rfl rfl ?_
    refine r_load rfl (ld_bs hS (i := 0) rfl rfl sc_22) rfl rfl ?_
    refine r_len rfl sl_22 rfl rfl ?_
    refine r_eql rfl rfl rfl rfl ?_
    refine r_pick_f rfl (by conv => lhs; whnf) rfl rfl ?_
    refine wpl_nil ?_
    refine thn ?_
    refine k_cond rfl (fun hc5 => ?_) (fun hc5 => ?_)
    · -- t
      have hc50 := hc5
      (try simp only [decide_eq_true_eq, decide_eq_false_iff_not, Bool.and_eq_true, Bool.and_eq_false_iff, Bool.not_eq_true', Bool.not_eq_false', Int.not_lt, Int.not_le] at hc5)
      refine k_seq ?_
      refine k_region ?_
      refine r_call rfl (c15 _ (hP.ext hS.ext)) rfl rfl ?_
      rintro _ w6 ⟨rfl, hE⟩
      have hS := hS.step hE
      refine r_assign (by conv => lhs; whnf) rfl rfl ?_
      refine wpl_nil ?_
      refine thn ?_
      refine ret1 (fun _ _ _ => rfl) (by conv => lhs; whnf) ?_
      exact ⟨rfl, hS.ext⟩
    · -- f
      have hc50 := hc5
      (try simp only [decide_eq_true_eq, decide_eq_false_iff_not, Bool.and_eq_true, Bool.and_eq_false_iff, Bool.not_eq_true', Bool.not_eq_false', Int.not_lt, Int.not_le] at hc5)
      have hn0 : n1 ≠ 0 := by omega
      refine k_skip ?_
      refine thn ?_
      refine k_seq ?_
      have hg := (GoodB.of_valid hv).1
      have hg1 := hg.l1
      have hg2 := hg.l2
      obtain ⟨plan, hpd⟩ : ∃ plan, plan = drawnTo bits n1 (2 * n2) := ⟨_, rfl⟩
      have hpl : plan.length = 2 * n2 := by rw [hpd]; exact drawnTo_len
      have hip : b.isPlan plan = true := by rw [hpd, ← hl1, ← hl2]; exact b.drawn_plan (by omega)
      obtain ⟨h, hhd⟩ : ∃ h, h = roundI n n1 := ⟨_, rfl⟩
      have hh : 0 ≤ h ∧ h < n1 := by rw [hhd]; exact roundI_bd (by omega)
      have hin : inB h b.hanks.length = true := inB_iff.2 (by omega)
      have eW : b.worksE plan = 0 := by unfold HBook.worksE HBook.ask; rw [hv, hip]; rfl
      cases hW : b.works plan with
      | false =>
        have eV : b.worksV plan = false := by unfold HBook.worksV; rw [eW, hW]; rfl
        have eO : b.offE plan = 61 := by unfold HBook.offE HBook.ask; rw [hv, hip, hW]; rfl
        have eL : b.leftE plan h = 61 := by unfold HBook.leftE HBook.ask; rw [hv, hip, hW, hin]; rfl
        have oV : b.offV plan = Sp0 := by unfold HBook.offV; rw [eO]; rfl
        have lV : b.leftV plan h = Sp0 := by unfold HBook.leftV; rw [eL]; rfl
        have hSb := hS
        apply k_draw (m := 7) (ss := [.val _, .val _, .ex (RowA 3 1 (2 * n2) (plan.map iv)), .val _, .val _, .val _, .val _]) mixed rfl (by kernel_rfl) (by kernel_rfl) rfl rfl rfl
        · refine ⟨?_, ?_, ?_, ?_, ?_, ?_, ?_, trivial⟩
          · -- op 0
            intro jnk vals lo hi w7 hE0 hd
            have hS := hS.step hE0
            refine r_load rfl (ld_ba hS (i := 0) rfl rfl rfl ag_25) rfl rfl ?_
            refine wpl_end ?_
            exact ⟨rfl, Ext.refl _ _, rfl⟩
          · -- op 1
            intro jnk vals lo hi w8 hE0 hd
            have hS := hS.step hE0
            refine r_move (by conv => lhs; whnf) rfl rfl ?_
            refine wpl_end ?_
            exact ⟨rfl, Ext.refl _ _, rfl⟩
          · -- op 2
            intro jnk vals lo hi w9 hE0 hd
            have hS := hS.step hE0
            refine r_call rfl (c16 _ A1 A2 n1 c1 n2 c2 _ _ _ bits Ab nb cb (hbits.ext hS.ext) (by omega) (by omega)) rfl rfl ?_
            rintro _ w10 ⟨ap, cp, rfl, hE, hrow, hrf⟩
            rw [← hpd] at hrow
            refine wpl_end ?_
            exact ⟨rfl, hE.of_no, ⟨ap, cp, rfl, hrf, hrow⟩⟩
          · -- op 3
            intro jnk vals lo hi w11 hE0 hd
            have hS := hS.step hE0
            refine r_move (by conv => lhs; whnf) rfl rfl ?_
            refine wpl_end ?_
            exact ⟨rfl, Ext.refl _ _, rfl⟩
          · -- op 4
            intro jnk vals lo hi w12 hE0 hd
            have hS := hS.step hE0
            refine r_field rfl fl_25_0 rfl rfl ?_
            refine wpl_end ?_
            exact ⟨rfl, Ext.refl _ _, rfl⟩
          · -- op 5
            intro jnk vals lo hi w13 hE0 hd
            have hS := hS.step hE0
            refine r_load rfl (ld_bs hS (i := 0) rfl rfl sc_22) rfl rfl ?_
            refine wpl_end ?_
            exact ⟨rfl, Ext.refl _ _, rfl⟩
          · -- op 6
            intro jnk vals lo hi w14 hE0 hd
            have hS := hS.step hE0
            refine r_len rfl sl_22 rfl rfl ?_
            refine wpl_end ?_
            exact ⟨rfl, Ext.refl _ _, rfl⟩
        · intro φ hφ v lo hi S w1 w2 hEa hEb hSb2
          rcases hφ with hφ | ⟨j, hφ⟩ <;> simp at hφ
          subst hφ
          exact rowa_stays hEa hEb hSb2
        intro jnk vals lo hi w15 hE0 hsat hdj hbd
        have hS := hS.step hE0
        have hbd2 := hbd 2 (by decide)
        obtain ⟨ap, cp, hvp, hlp, hrow⟩ := hsat 2 (by decide) rfl
        rw [← hpl] at hvp hrow
        rw [vset_eq hvp]
        have hS := hSb.add hE0 (x := row 3 1 ap plan.length cp (plan.map iv)) hrow (fun z hz => by have := hlp z hz; omega)
        refine r_call rfl (c17 _ _ _ (by omega)) rfl rfl ?_
        rintro _ w16 ⟨rfl, hE⟩
        have hS := hS.step hE
        rw [← hhd]
        refine r_assign (by conv => lhs; whnf) rfl rfl ?_
        refine r_assign (by conv => lhs; whnf) rfl rfl ?_
        refine wpl_nil ?_
        refine thn ?_
        refine k_seq ?_
        (try simp only [List.nil_append, List.cons_append, List.set_cons_zero, List.set_cons_succ] at hS)
        refine k_region ?_
        refine r_load rfl (ld_ba hS (i := 0) rfl rfl rfl ag_25) rfl rfl ?_
        refine r_move (by conv => lhs; whnf) rfl rfl ?_
        refine r_call rfl (c18 _ b A1 A2 n1 c1 n2 c2 (h1.ext hS.ext) (h2.ext hS.ext) (hP.ext hS.ext) plan ap plan.length cp (row_rd (hS.get (i := 1) rfl) (by omega))) rfl rfl ?_
        rintro _ w17 ⟨hv17, hE⟩
        simp only [eV, eW] at hv17
        subst hv17
        have hS := hS.step hE
        refine r_move (by conv => lhs; whnf) rfl rfl ?_
        refine r_extract rfl rfl rfl rfl ?_
        refine r_extract rfl rfl rfl rfl ?_
        refine r_assign (by conv => lhs; whnf) rfl rfl ?_
        refine r_assign (by conv => lhs; whnf) rfl rfl ?_
        refine wpl_nil ?_
        refine thn ?_
        refine k_seq ?_
        (try simp only [List.nil_append, List.cons_append, List.set_cons_zero, List.set_cons_succ] at hS)
        refine k_region ?_
        refine r_load rfl (ld_ba hS (i := 0) rfl rfl rfl ag_25) rfl rfl ?_
        refine r_move (by conv => lhs; whnf) rfl rfl ?_
        refine r_call rfl (c19 _ b A1 A2 n1 c1 n2 c2 (h1.ext hS.ext) (h2.ext hS.ext) (hP.ext hS.ext) plan ap plan.length cp (row_rd (hS.get (i := 1) rfl) (by omega))) rfl rfl ?_
        rintro _ w18 ⟨hv18, hE⟩
        simp only [oV, eO] at hv18
        subst hv18
        have hS := hS.step hE
        refine r_move (by conv => lhs; whnf) rfl rfl ?_
        refine r_extract rfl rfl rfl rfl ?_
        refine r_extract rfl rfl rfl rfl ?_
        refine r_alloc hS z_35 rfl rfl rfl ?_
        intro b11 w19 hS hE hB11
        refine r_storea hS (i := 2) rfl rfl rfl sz_35 rfl rfl rfl ?_
        intro w20 hS hE
        refine r_assign (by conv => lhs; whnf) rfl rfl ?_
        refine wpl_nil ?_
        refine thn ?_
        refine k_seq ?_
        (try simp only [List.nil_append, List.cons_append, List.set_cons_zero, List.set_cons_succ] at hS)
        refine k_region ?_
        refine r_load rfl (ld_ba hS (i := 0) rfl rfl rfl ag_25) rfl rfl ?_
        refine r_move (by conv => lhs; whnf) rfl rfl ?_
        refine r_move (by conv => lhs; whnf) rfl rfl ?_
        refine r_call rfl (c20 _ b A1 A2 n1 c1 n2 c2 (h1.ext hS.ext) (h2.ext hS.ext) (hP.ext hS.ext) plan ap plan.length cp (row_rd (hS.get (i := 1) rfl) (by omega)) h) rfl rfl ?_
        rintro _ w21 ⟨hv21, hE⟩
        simp only [lV, eL] at hv21
        subst hv21
        have hS := hS.step hE
        refine r_move (by conv => lhs; whnf) rfl rfl ?_
        refine r_extract rfl rfl rfl rfl ?_
        refine r_extract rfl rfl rfl rfl ?_
        refine r_alloc hS z_35 rfl rfl rfl ?_
        intro b13 w22 hS hE hB13
        refine r_storea hS (i := 3) rfl rfl rfl sz_35 rfl rfl rfl ?_
        intro w23 hS hE
        refine r_assign (by conv => lhs; whnf) rfl rfl ?_
        refine wpl_nil ?_
        refine thn ?_
        refine k_seq ?_
        refine k_seq ?_
        (try simp only [List.nil_append, List.cons_append, List.set_cons_zero, List.set_cons_succ] at hS)
        have hSb := hS
        apply k_draw (m := 27) (ss := [.val _, .val _, .val _, .val _, .val _, .val _, .val _, .val _, .val _, .val _, .val _, .val _, .val _, .val _, .val _, .val _, .val _, .val _, .val _, .val _, .val _, .val _, .val _, .val _, .val _, .val _, .val _]) mixed rfl (by kernel_rfl) (by kernel_rfl) rfl rfl rfl
        · refine ⟨?_, ?_, ?_, ?_, ?_, ?_, ?_, ?_, ?_, ?_, ?_, ?_, ?_, ?_, ?_, ?_, ?_, ?_, ?_, ?_, ?_, ?_, ?_, ?_, ?_, ?_, ?_, trivial⟩
          · -- op 0
            intro jnk vals lo hi w24 hE0 hd
            have hS := hS.step hE0
            refine r_move (by conv => lhs; whnf) rfl rfl ?_
            refine wpl_end ?_
            exact ⟨rfl, Ext.refl _ _, rfl⟩
          · -- op 1
            intro jnk vals lo hi w25 hE0 hd
            have hS := hS.step hE0
            refine r_neq rfl rfl rfl rfl ?_
            refine wpl_end ?_
            exact ⟨rfl, Ext.refl _ _, rfl⟩
          · -- op 2
            intro jnk vals lo hi w26 hE0 hd
            have hS := hS.step hE0
            refine r_move (by conv => lhs; whnf) rfl rfl ?_
            refine wpl_end ?_
            exact ⟨rfl, Ext.refl _ _, rfl⟩
          · -- op 3
            intro jnk vals lo hi w27 hE0 hd
            have hS := hS.step hE0
            refine r_move (by conv => lhs; whnf) rfl rfl ?_
            refine wpl_end ?_
            exact ⟨rfl, Ext.refl _ _, rfl⟩
          · -- op 4
            intro jnk vals lo hi w28 hE0 hd
            have hS := hS.step hE0
            refine r_move (by conv => lhs; whnf) rfl rfl ?_
            refine wpl_end ?_
            exact ⟨rfl, Ext.refl _ _, rfl⟩
          · -- op 5
            intro jnk vals lo hi w29 hE0 hd
            have hS := hS.step hE0
            refine r_neq rfl rfl rfl rfl ?_
            refine wpl_end ?_
            exact ⟨rfl, Ext.refl _ _, rfl⟩
          · -- op 6
            intro jnk vals lo hi w30 hE0 hd
            have hS := hS.step hE0
            refine r_pick_f rfl (by conv => lhs; whnf) rfl rfl ?_
            refine wpl_end ?_
            exact ⟨rfl, Ext.refl _ _, rfl⟩
          · -- op 7
            intro jnk vals lo hi w31 hE0 hd
            have hS := hS.step hE0
            refine r_move (by conv => lhs; whnf) rfl rfl ?_
            refine wpl_end ?_
            exact ⟨rfl, Ext.refl _ _, rfl⟩
          · -- op 8
            intro jnk vals lo hi w32 hE0 hd
            have hS := hS.step hE0
            refine r_move (by conv => lhs; whnf) rfl rfl ?_
            refine wpl_end ?_
            exact ⟨rfl, Ext.refl _ _, rfl⟩
          · -- op 9
            intro jnk vals lo hi w33 hE0 hd
            have hS := hS.step hE0
            refine r_move (by conv => lhs; whnf) rfl rfl ?_
            refine wpl_end ?_
            exact ⟨rfl, Ext.refl _ _, rfl⟩
          · -- op 10
            intro jnk vals lo hi w34 hE0 hd
            have hS := hS.step hE0
            refine r_eql rfl rfl rfl rfl ?_
            refine wpl_end ?_
            exact ⟨rfl, Ext.refl _ _, rfl⟩
          · -- op 11
            intro jnk vals lo hi w35 hE0 hd
            have hS := hS.step hE0
            refine r_neqb u_4 rfl rfl rfl rfl ?_
            refine wpl_end ?_
            exact ⟨rfl, Ext.refl _ _, rfl⟩
          · -- op 12
            intro jnk vals lo hi w36 hE0 hd
            have hS := hS.step hE0
            refine r_pick_f rfl (by conv => lhs; whnf) rfl rfl ?_
            refine wpl_end ?_
            exact ⟨rfl, Ext.refl _ _, rfl⟩
          · -- op 13
            intro jnk vals lo hi w37 hE0 hd
            have hS := hS.step hE0
            refine r_move (by conv => lhs; whnf) rfl rfl ?_
            refine wpl_end ?_
            exact ⟨rfl, Ext.refl _ _, rfl⟩
          · -- op 14
            intro jnk vals lo hi w38 hE0 hd
            have hS := hS.step hE0
            refine r_move (by conv => lhs; whnf) rfl rfl ?_
            refine wpl_end ?_
            exact ⟨rfl, Ext.refl _ _, rfl⟩
          · -- op 15
            intro jnk vals lo hi w39 hE0 hd
            have hS := hS.step hE0
            refine r_not rfl rfl rfl ?_
            refine wpl_end ?_
            exact ⟨rfl, Ext.refl _ _, rfl⟩
          · -- op 16
            intro jnk vals lo hi w40 hE0 hd
            have hS := hS.step hE0
            refine r_move (by conv => lhs; whnf) rfl rfl ?_
            refine wpl_end ?_
            exact ⟨rfl, Ext.refl _ _, rfl⟩
          · -- op 17
            intro jnk vals lo hi w41 hE0 hd
            have hS := hS.step hE0
            refine r_move (by conv => lhs; whnf) rfl rfl ?_
            refine wpl_end ?_
            exact ⟨rfl, Ext.refl _ _, rfl⟩
          · -- op 18
            intro jnk vals lo hi w42 hE0 hd
            have hS := hS.step hE0
            refine r_neq rfl rfl rfl rfl ?_
            refine wpl_end ?_
            exact ⟨rfl, Ext.refl _ _, rfl⟩
          · -- op 19
            intro jnk vals lo hi w43 hE0 hd
            have hS := hS.step hE0
            refine r_move (by conv => lhs; whnf) rfl rfl ?_
            refine wpl_end ?_
            exact ⟨rfl, Ext.refl _ _, rfl⟩
          · -- op 20
            intro jnk vals lo hi w44 hE0 hd
            have hS := hS.step hE0
            refine r_load rfl (ld_ba hS (i := 2) rfl rfl rfl ag_35) rfl rfl ?_
            refine wpl_end ?_
            exact ⟨rfl, Ext.refl _ _, rfl⟩
          · -- op 21
            intro jnk vals lo hi w45 hE0 hd
            have hS := hS.step hE0
            refine r_call rfl (c21 _ _) rfl rfl ?_
            rintro _ w46 ⟨rfl, hE⟩
            have hS := hS.step hE
            refine wpl_end ?_
            exact ⟨rfl, hE.of_no, rfl⟩
          · -- op 22
            intro jnk vals lo hi w47 hE0 hd
            have hS := hS.step hE0
            refine r_neqs (a := [0, 0]) (b := [0, 0]) ik_35 eg_35 rfl rfl rfl rfl rfl rfl ?_
            refine wpl_end ?_
            exact ⟨rfl, Ext.refl _ _, rfl⟩
          · -- op 23
            intro jnk vals lo hi w49 hE0 hd
            have hS := hS.step hE0
            refine r_pick_f rfl (by conv => lhs; whnf) rfl rfl ?_
            refine wpl_end ?_
            exact ⟨rfl, Ext.refl _ _, rfl⟩
          · -- op 24
            intro jnk vals lo hi w50 hE0 hd
            have hS := hS.step hE0
            refine r_move (by conv => lhs; whnf) rfl rfl ?_
            refine wpl_end ?_
            exact ⟨rfl, Ext.refl _ _, rfl⟩
          · -- op 25
            intro jnk vals lo hi w51 hE0 hd
            have hS := hS.step hE0
            refine r_load rfl (ld_ba hS (i := 3) rfl rfl rfl ag_35) rfl rfl ?_
            refine wpl_end ?_
            exact ⟨rfl, Ext.refl _ _, rfl⟩
          · -- op 26
            intro jnk vals lo hi w52 hE0 hd
            have hS := hS.step hE0
            refine r_load rfl (ld_ba hS (i := 2) rfl rfl rfl ag_35) rfl rfl ?_
            refine wpl_end ?_
            exact ⟨rfl, Ext.refl _ _, rfl⟩
        · intro φ hφ v lo hi S w1 w2 hEa hEb hSb2
          simp at hφ
        intro jnk vals lo hi w53 hE0 hsat hdj hbd
        have hS := hS.step hE0
        refine r_neqs (a := [0, 0]) (b := [0, 0]) ik_35 eg_35 rfl rfl rfl rfl rfl rfl ?_
        refine r_pick_f rfl (by conv => lhs; whnf) rfl rfl ?_
        refine r_pick_t rfl (by conv => lhs; whnf) rfl rfl ?_
        refine r_pick_f rfl (by conv => lhs; whnf) rfl rfl ?_
        refine wpl_nil ?_
        refine thn ?_
        refine k_cond_f rfl ?_
        refine k_skip ?_
        refine thn ?_
        refine k_seq ?_
        refine k_seq ?_
        (try simp only [List.nil_append, List.cons_append, List.set_cons_zero, List.set_cons_succ] at hS)
        refine k_region ?_
        refine r_move (by conv => lhs; whnf) rfl rfl ?_
        refine r_not rfl rfl rfl ?_
        refine wpl_nil ?_
        refine thn ?_
        refine k_cond_t rfl ?_
        refine k_seq ?_
        (try simp only [List.nil_append, List.cons_append, List.set_cons_zero, List.set_cons_succ] at hS)
        refine k_region ?_
        refine r_call rfl (c15 _ (hP.ext hS.ext)) rfl rfl ?_
        rintro _ w55 ⟨rfl, hE⟩
        have hS := hS.step hE
        refine r_assign (by conv => lhs; whnf) rfl rfl ?_
        refine wpl_nil ?_
        refine thn ?_
        refine ret1 (fun _ _ _ => rfl) (by conv => lhs; whnf) ?_
        exact ⟨rfl, hS.ext⟩
      | true =>
        have eV : b.worksV plan = true := by unfold HBook.worksV; rw [eW, hW]; rfl
        have eO : b.offE plan = 0 := by unfold HBook.offE HBook.ask; rw [hv, hip, hW]; rfl
        have eL : b.leftE plan h = 0 := by unfold HBook.leftE HBook.ask; rw [hv, hip, hW, hin]; rfl
        have hu := b.spentTo_ok hg (plan := plan) (n := b.horses.length) (Nat.le_refl _)
        obtain ⟨u, hud⟩ : ∃ u, u = (b.spentTo plan b.horses.length) := ⟨_, rfl⟩
        rw [← hud] at hu
        have hul : u.length = n1 := hu.len.trans hl1
        have oV : b.offV plan = ⟨b.wantTo u false n1 - sumTo u u.length, b.wantTo u true n1 - sumTo u u.length⟩ := by unfold HBook.offV; rw [eO, b.off_law hg hip false, b.off_law hg hip true, ← hud, hul, hl1]; rfl
        have hcu : (b.cutOf plan).getD h.toNat 0 = u.getD h.toNat 0 := by unfold HBook.cutOf; rw [b.isPlan_len hip, hud]; exact (b.spent_cut hg hip (Nat.le_refl _) h.toNat (by omega)).symm
        have lV : b.leftV plan h = ⟨(b.hanks.getD h.toNat Hank0).w.lo - u.getD h.toNat 0, (b.hanks.getD h.toNat Hank0).w.hi - u.getD h.toNat 0⟩ := by unfold HBook.leftV; rw [eL, hcu]; rfl
        have hfit := b.works_fits hW (k := h.toNat) (by omega)
        rw [hcu] at hfit
        have huh := hu.bd h.toNat
        have hqh := hg.hank _ (getD_mem (d := Hank0) (k := h.toNat) (l := b.hanks) (by omega))
        obtain ⟨ah, hAh, hch⟩ := h1.at (d := Hank0) hh
        have hwf := b.wantTo_bd hg (u := u) (up := false) (k := n1) (by omega)
        have hwt := b.wantTo_bd hg (u := u) (up := true) (k := n1) (by omega)
        have hub : ∀ x ∈ u, 0 ≤ x ∧ x ≤ 1000 := fun x hx => by
          obtain ⟨i, hi, rfl⟩ := List.mem_iff_getElem.1 hx
          have h9 := hu.bd i
          rw [List.getD_eq_getElem?_getD, List.getElem?_eq_getElem hi, Option.getD_some] at h9
          omega
        have hsu := sumTo_bd hub (k := u.length) (Nat.le_refl _)
        have hSb := hS
        apply k_draw (m := 7) (ss := [.val _, .val _, .ex (RowA 3 1 (2 * n2) (plan.map iv)), .val _, .val _, .val _, .val _]) mixed rfl (by kernel_rfl) (by kernel_rfl) rfl rfl rfl
        · refine ⟨?_, ?_, ?_, ?_, ?_, ?_, ?_, trivial⟩
          · -- op 0
            intro jnk vals lo hi w56 hE0 hd
            have hS := hS.step hE0
            refine r_load rfl (ld_ba hS (i := 0) rfl rfl rfl ag_25) rfl rfl ?_
            refine wpl_end ?_
            exact ⟨rfl, Ext.refl _ _, rfl⟩
          · -- op 1
            intro jnk vals lo hi w57 hE0 hd
            have hS := hS.step hE0
            refine r_move (by conv => lhs; whnf) rfl rfl ?_
            refine wpl_end ?_
            exact ⟨rfl, Ext.refl _ _, rfl⟩
          · -- op 2
            intro jnk vals lo hi w58 hE0 hd
            have hS := hS.step hE0
            refine r_call rfl (c16 _ A1 A2 n1 c1 n2 c2 _ _ _ bits Ab nb cb (hbits.ext hS.ext) (by omega) (by omega)) rfl rfl ?_
            rintro _ w59 ⟨ap, cp, rfl, hE, hrow, hrf⟩
            rw [← hpd] at hrow
            refine wpl_end ?_
            exact ⟨rfl, hE.of_no, ⟨ap, cp, rfl, hrf, hrow⟩⟩
          · -- op 3
            intro jnk vals lo hi w60 hE0 hd
            have hS := hS.step hE0
            refine r_move (by conv => lhs; whnf) rfl rfl ?_
            refine wpl_end ?_
            exact ⟨rfl, Ext.refl _ _, rfl⟩
          · -- op 4
            intro jnk vals lo hi w61 hE0 hd
            have hS := hS.step hE0
            refine r_field rfl fl_25_0 rfl rfl ?_
            refine wpl_end ?_
            exact ⟨rfl, Ext.refl _ _, rfl⟩
          · -- op 5
            intro jnk vals lo hi w62 hE0 hd
            have hS := hS.step hE0
            refine r_load rfl (ld_bs hS (i := 0) rfl rfl sc_22) rfl rfl ?_
            refine wpl_end ?_
            exact ⟨rfl, Ext.refl _ _, rfl⟩
          · -- op 6
            intro jnk vals lo hi w63 hE0 hd
            have hS := hS.step hE0
            refine r_len rfl sl_22 rfl rfl ?_
            refine wpl_end ?_
            exact ⟨rfl, Ext.refl _ _, rfl⟩
        · intro φ hφ v lo hi S w1 w2 hEa hEb hSb2
          rcases hφ with hφ | ⟨j, hφ⟩ <;> simp at hφ
          subst hφ
          exact rowa_stays hEa hEb hSb2
        intro jnk vals lo hi w64 hE0 hsat hdj hbd
        have hS := hS.step hE0
        have hbd2 := hbd 2 (by decide)
        obtain ⟨ap, cp, hvp, hlp, hrow⟩ := hsat 2 (by decide) rfl
        rw [← hpl] at hvp hrow
        rw [vset_eq hvp]
        have hS := hSb.add hE0 (x := row 3 1 ap plan.length cp (plan.map iv)) hrow (fun z hz => by have := hlp z hz; omega)
        refine r_call rfl (c17 _ _ _ (by omega)) rfl rfl ?_
        rintro _ w65 ⟨rfl, hE⟩
        have hS := hS.step hE
        rw [← hhd]
        refine r_assign (by conv => lhs; whnf) rfl rfl ?_
        refine r_assign (by conv => lhs; whnf) rfl rfl ?_
        refine wpl_nil ?_
        refine thn ?_
        refine k_seq ?_
        (try simp only [List.nil_append, List.cons_append, List.set_cons_zero, List.set_cons_succ] at hS)
        refine k_region ?_
        refine r_load rfl (ld_ba hS (i := 0) rfl rfl rfl ag_25) rfl rfl ?_
        refine r_move (by conv => lhs; whnf) rfl rfl ?_
        refine r_call rfl (c18 _ b A1 A2 n1 c1 n2 c2 (h1.ext hS.ext) (h2.ext hS.ext) (hP.ext hS.ext) plan ap plan.length cp (row_rd (hS.get (i := 1) rfl) (by omega))) rfl rfl ?_
        rintro _ w66 ⟨hv66, hE⟩
        simp only [eV, eW] at hv66
        subst hv66
        have hS := hS.step hE
        refine r_move (by conv => lhs; whnf) rfl rfl ?_
        refine r_extract rfl rfl rfl rfl ?_
        refine r_extract rfl rfl rfl rfl ?_
        refine r_assign (by conv => lhs; whnf) rfl rfl ?_
        refine r_assign (by conv => lhs; whnf) rfl rfl ?_
        refine wpl_nil ?_
        refine thn ?_
        refine k_seq ?_
        (try simp only [List.nil_append, List.cons_append, List.set_cons_zero, List.set_cons_succ] at hS)
        refine k_region ?_
        refine r_load rfl (ld_ba hS (i := 0) rfl rfl rfl ag_25) rfl rfl ?_
        refine r_move (by conv => lhs; whnf) rfl rfl ?_
        refine r_call rfl (c19 _ b A1 A2 n1 c1 n2 c2 (h1.ext hS.ext) (h2.ext hS.ext) (hP.ext hS.ext) plan ap plan.length cp (row_rd (hS.get (i := 1) rfl) (by omega))) rfl rfl ?_
        rintro _ w67 ⟨hv67, hE⟩
        simp only [oV, eO] at hv67
        subst hv67
        have hS := hS.step hE
        refine r_move (by conv => lhs; whnf) rfl rfl ?_
        refine r_extract rfl rfl rfl rfl ?_
        refine r_extract rfl rfl rfl rfl ?_
        refine r_alloc hS z_35 rfl rfl rfl ?_
        intro b11 w68 hS hE hB11
        refine r_storea hS (i := 2) rfl rfl rfl sz_35 rfl rfl rfl ?_
        intro w69 hS hE
        refine r_assign (by conv => lhs; whnf) rfl rfl ?_
        refine wpl_nil ?_
        refine thn ?_
        refine k_seq ?_
        (try simp only [List.nil_append, List.cons_append, List.set_cons_zero, List.set_cons_succ] at hS)
        refine k_region ?_
        refine r_load rfl (ld_ba hS (i := 0) rfl rfl rfl ag_25) rfl rfl ?_
        refine r_move (by conv => lhs; whnf) rfl rfl ?_
        refine r_move (by conv => lhs; whnf) rfl rfl ?_
        refine r_call rfl (c20 _ b A1 A2 n1 c1 n2 c2 (h1.ext hS.ext) (h2.ext hS.ext) (hP.ext hS.ext) plan ap plan.length cp (row_rd (hS.get (i := 1) rfl) (by omega)) h) rfl rfl ?_
        rintro _ w70 ⟨hv70, hE⟩
        simp only [lV, eL] at hv70
        subst hv70
        have hS := hS.step hE
        refine r_move (by conv => lhs; whnf) rfl rfl ?_
        refine r_extract rfl rfl rfl rfl ?_
        refine r_extract rfl rfl rfl rfl ?_
        refine r_alloc hS z_35 rfl rfl rfl ?_
        intro b13 w71 hS hE hB13
        refine r_storea hS (i := 3) rfl rfl rfl sz_35 rfl rfl rfl ?_
        intro w72 hS hE
        refine r_assign (by conv => lhs; whnf) rfl rfl ?_
        refine wpl_nil ?_
        refine thn ?_
        refine k_seq ?_
        refine k_seq ?_
        (try simp only [List.nil_append, List.cons_append, List.set_cons_zero, List.set_cons_succ] at hS)
        have hSb := hS
        apply k_draw (m := 27) (ss := [.val _, .val _, .val _, .val _, .val _, .val _, .val _, .val _, .val _, .val _, .val _, .val _, .val _, .val _, .val _, .val _, .val _, .val _, .val _, .val _, .val _, .val _, .val _, .val _, .val _, .val _, .val _]) mixed rfl (by kernel_rfl) (by kernel_rfl) rfl rfl rfl
        · refine ⟨?_, ?_, ?_, ?_, ?_, ?_, ?_, ?_, ?_, ?_, ?_, ?_, ?_, ?_, ?_, ?_, ?_, ?_, ?_, ?_, ?_, ?_, ?_, ?_, ?_, ?_, ?_, trivial⟩
          · -- op 0
            intro jnk vals lo hi w73 hE0 hd
            have hS := hS.step hE0
            refine r_move (by conv => lhs; whnf) rfl rfl ?_
            refine wpl_end ?_
            exact ⟨rfl, Ext.refl _ _, rfl⟩
          · -- op 1
            intro jnk vals lo hi w74 hE0 hd
            have hS := hS.step hE0
            refine r_neq rfl rfl rfl rfl ?_
            refine wpl_end ?_
            exact ⟨rfl, Ext.refl _ _, rfl⟩
          · -- op 2
            intro jnk vals lo hi w75 hE0 hd
            have hS := hS.step hE0
            refine r_move (by conv => lhs; whnf) rfl rfl ?_
            refine wpl_end ?_
            exact ⟨rfl, Ext.refl _ _, rfl⟩
          · -- op 3
            intro jnk vals lo hi w76 hE0 hd
            have hS := hS.step hE0
            refine r_move (by conv => lhs; whnf) rfl rfl ?_
            refine wpl_end ?_
            exact ⟨rfl, Ext.refl _ _, rfl⟩
          · -- op 4
            intro jnk vals lo hi w77 hE0 hd
            have hS := hS.step hE0
            refine r_move (by conv => lhs; whnf) rfl rfl ?_
            refine wpl_end ?_
            exact ⟨rfl, Ext.refl _ _, rfl⟩
          · -- op 5
            intro jnk vals lo hi w78 hE0 hd
            have hS := hS.step hE0
            refine r_neq rfl rfl rfl rfl ?_
            refine wpl_end ?_
            exact ⟨rfl, Ext.refl _ _, rfl⟩
          · -- op 6
            intro jnk vals lo hi w79 hE0 hd
            have hS := hS.step hE0
            refine r_pick_f rfl (by conv => lhs; whnf) rfl rfl ?_
            refine wpl_end ?_
            exact ⟨rfl, Ext.refl _ _, rfl⟩
          · -- op 7
            intro jnk vals lo hi w80 hE0 hd
            have hS := hS.step hE0
            refine r_move (by conv => lhs; whnf) rfl rfl ?_
            refine wpl_end ?_
            exact ⟨rfl, Ext.refl _ _, rfl⟩
          · -- op 8
            intro jnk vals lo hi w81 hE0 hd
            have hS := hS.step hE0
            refine r_move (by conv => lhs; whnf) rfl rfl ?_
            refine wpl_end ?_
            exact ⟨rfl, Ext.refl _ _, rfl⟩
          · -- op 9
            intro jnk vals lo hi w82 hE0 hd
            have hS := hS.step hE0
            refine r_move (by conv => lhs; whnf) rfl rfl ?_
            refine wpl_end ?_
            exact ⟨rfl, Ext.refl _ _, rfl⟩
          · -- op 10
            intro jnk vals lo hi w83 hE0 hd
            have hS := hS.step hE0
            refine r_eql rfl rfl rfl rfl ?_
            refine wpl_end ?_
            exact ⟨rfl, Ext.refl _ _, rfl⟩
          · -- op 11
            intro jnk vals lo hi w84 hE0 hd
            have hS := hS.step hE0
            refine r_neqb u_4 rfl rfl rfl rfl ?_
            refine wpl_end ?_
            exact ⟨rfl, Ext.refl _ _, rfl⟩
          · -- op 12
            intro jnk vals lo hi w85 hE0 hd
            have hS := hS.step hE0
            refine r_pick_f rfl (by conv => lhs; whnf) rfl rfl ?_
            refine wpl_end ?_
            exact ⟨rfl, Ext.refl _ _, rfl⟩
          · -- op 13
            intro jnk vals lo hi w86 hE0 hd
            have hS := hS.step hE0
            refine r_move (by conv => lhs; whnf) rfl rfl ?_
            refine wpl_end ?_
            exact ⟨rfl, Ext.refl _ _, rfl⟩
          · -- op 14
            intro jnk vals lo hi w87 hE0 hd
            have hS := hS.step hE0
            refine r_move (by conv => lhs; whnf) rfl rfl ?_
            refine wpl_end ?_
            exact ⟨rfl, Ext.refl _ _, rfl⟩
          · -- op 15
            intro jnk vals lo hi w88 hE0 hd
            have hS := hS.step hE0
            refine r_not rfl rfl rfl ?_
            refine wpl_end ?_
            exact ⟨rfl, Ext.refl _ _, rfl⟩
          · -- op 16
            intro jnk vals lo hi w89 hE0 hd
            have hS := hS.step hE0
            refine r_move (by conv => lhs; whnf) rfl rfl ?_
            refine wpl_end ?_
            exact ⟨rfl, Ext.refl _ _, rfl⟩
          · -- op 17
            intro jnk vals lo hi w90 hE0 hd
            have hS := hS.step hE0
            refine r_skip rfl rfl ?_
            refine wpl_end ?_
            exact ⟨rfl, Ext.refl _ _, rfl⟩
          · -- op 18
            intro jnk vals lo hi w91 hE0 hd
            have hS := hS.step hE0
            refine r_skip rfl rfl ?_
            refine wpl_end ?_
            exact ⟨rfl, Ext.refl _ _, rfl⟩
          · -- op 19
            intro jnk vals lo hi w92 hE0 hd
            have hS := hS.step hE0
            refine r_skip rfl rfl ?_
            refine wpl_end ?_
            exact ⟨rfl, Ext.refl _ _, rfl⟩
          · -- op 20
            intro jnk vals lo hi w93 hE0 hd
            have hS := hS.step hE0
            refine r_skip rfl rfl ?_
            refine wpl_end ?_
            exact ⟨rfl, Ext.refl _ _, rfl⟩
          · -- op 21
            intro jnk vals lo hi w94 hE0 hd
            have hS := hS.step hE0
            refine r_skip rfl rfl ?_
            refine wpl_end ?_
            exact ⟨rfl, Ext.refl _ _, rfl⟩
          · -- op 22
            intro jnk vals lo hi w95 hE0 hd
            have hS := hS.step hE0
            refine r_skip rfl rfl ?_
            refine wpl_end ?_
            exact ⟨rfl, Ext.refl _ _, rfl⟩
          · -- op 23
            intro jnk vals lo hi w96 hE0 hd
            have hS := hS.step hE0
            refine r_skip rfl rfl ?_
            refine wpl_end ?_
            exact ⟨rfl, Ext.refl _ _, rfl⟩
          · -- op 24
            intro jnk vals lo hi w97 hE0 hd
            have hS := hS.step hE0
            refine r_skip rfl rfl ?_
            refine wpl_end ?_
            exact ⟨rfl, Ext.refl _ _, rfl⟩
          · -- op 25
            intro jnk vals lo hi w98 hE0 hd
            have hS := hS.step hE0
            refine r_skip rfl rfl ?_
            refine wpl_end ?_
            exact ⟨rfl, Ext.refl _ _, rfl⟩
          · -- op 26
            intro jnk vals lo hi w99 hE0 hd
            have hS := hS.step hE0
            refine r_skip rfl rfl ?_
            refine wpl_end ?_
            exact ⟨rfl, Ext.refl _ _, rfl⟩
        · intro φ hφ v lo hi S w1 w2 hEa hEb hSb2
          simp at hφ
        intro jnk vals lo hi w100 hE0 hsat hdj hbd
        have hS := hS.step hE0
        refine r_skip rfl rfl ?_
        refine r_skip rfl rfl ?_
        refine r_pick_f rfl (by conv => lhs; whnf) rfl rfl ?_
        refine r_pick_f rfl (by conv => lhs; whnf) rfl rfl ?_
        refine wpl_nil ?_
        refine thn ?_
        refine k_cond_f rfl ?_
        refine k_skip ?_
        refine thn ?_
        refine k_seq ?_
        refine k_seq ?_
        (try simp only [List.nil_append, List.cons_append, List.set_cons_zero, List.set_cons_succ] at hS)
        refine k_region ?_
        refine r_move (by conv => lhs; whnf) rfl rfl ?_
        refine r_not rfl rfl rfl ?_
        refine wpl_nil ?_
        refine thn ?_
        refine k_cond_f rfl ?_
        refine k_skip ?_
        refine thn ?_
        refine k_seq ?_
        (try simp only [List.nil_append, List.cons_append, List.set_cons_zero, List.set_cons_succ] at hS)
        refine k_region ?_
        refine r_load rfl (ld_ba hS (i := 0) rfl rfl rfl ag_25) rfl rfl ?_
        refine r_move (by conv => lhs; whnf) rfl rfl ?_
        refine r_call rfl (c22 _ b A1 A2 n1 c1 n2 c2 (h1.ext hS.ext) (h2.ext hS.ext) plan ap plan.length cp (row_rd (hS.get (i := 1) rfl) (by omega)) hg hip) rfl rfl ?_
        rintro _ w101 ⟨q, rfl, hE, hbq, hrq⟩
        rw [← hud] at hbq
        have hS := hS.add hE (x := box q 3 (u.map iv)) hbq (fun z hz => by cases hz; exact hrq)
        refine r_call rfl (c21 _ _) rfl rfl ?_
        rintro _ w102 ⟨rfl, hE⟩
        have hS := hS.step hE
        refine r_alloc hS z_35 rfl rfl rfl ?_
        intro b16 w103 hS hE hB16
        refine r_assign (by conv => lhs; whnf) rfl rfl ?_
        refine r_storea hS (i := 5) rfl rfl rfl sz_35 rfl rfl rfl ?_
        intro w104 hS hE
        refine wpl_nil ?_
        refine thn ?_
        refine k_seq ?_
        refine k_seq ?_
        (try simp only [List.nil_append, List.cons_append, List.set_cons_zero, List.set_cons_succ] at hS)
        refine k_region ?_
        refine r_assign (by conv => lhs; whnf) rfl rfl ?_
        refine wpl_nil ?_
        refine thn ?_
        refine k_block ?_
        refine k_loop (ι := Nat) [17, 95, 96, 97, 98, 99, 100, 101, 102, 103, 104, 105, 106, 107, 108, 109, 110, 111, 112, 113, 114] (fun k => [(17, .int .i64 (k : Int))]) (fun k w' => k ≤ n1 ∧ St (bs w) w' [box b3 25 [.slice A1 n1 c1, .slice A2 n2 c2, .int .i64 b.dark, .int .i64 b.near, .int .i64 b.mat], row 3 1 ap plan.length cp (plan.map iv), box b11 35 [.int .i64 (b.wantTo u false n1 - sumTo u u.length), .int .i64 (b.wantTo u true n1 - sumTo u u.length)], box b13 35 [.int .i64 ((b.hanks.getD h.toNat Hank0).w.lo - u.getD h.toNat 0), .int .i64 ((b.hanks.getD h.toNat Hank0).w.hi - u.getD h.toNat 0)], box q 3 (u.map iv), box b16 35 [.int .i64 (b.wantTo u false k), .int .i64 (b.wantTo u true k)]]) (fun k => n1 - k) 0 ⟨rfl, trivial⟩ ⟨Nat.zero_le _, hS⟩ ?_
        rintro k j w2 ⟨hk0, hS⟩
        refine k_seq ?_
        refine k_seq ?_
        (try simp only [List.nil_append, List.cons_append, List.set_cons_zero, List.set_cons_succ] at hS)
        refine k_region ?_
        refine r_move (by conv => lhs; whnf) rfl rfl ?_
        refine r_field rfl fl_25_0 rfl rfl ?_
        refine r_load rfl (ld_bs hS (i := 0) rfl rfl sc_22) rfl rfl ?_
        refine r_len rfl sl_22 rfl rfl ?_
        refine r_lss rfl rfl rfl rfl ?_
        refine wpl_nil ?_
        refine thn ?_
        refine k_cond rfl (fun hc106 => ?_) (fun hc106 => ?_)
        · -- t
          have hc1060 := hc106
          (try simp only [decide_eq_true_eq, decide_eq_false_iff_not, Bool.and_eq_true, Bool.and_eq_false_iff, Bool.not_eq_true', Bool.not_eq_false', Int.not_lt, Int.not_le] at hc106)
          have hk : k < n1 := by omega
          obtain ⟨ak, hAk, hck⟩ := h1.nat (d := Hank0) hk
          have hq := hg.hank _ (getD_mem (d := Hank0) (k := k) (l := b.hanks) (by omega))
          have hk1 := b.wantTo_bd hg (u := u) (up := false) (k := k) (by omega)
          have hk2 := b.wantTo_bd hg (u := u) (up := true) (k := k) (by omega)
          refine k_skip ?_
          refine thn ?_
          refine k_seq ?_
          refine k_block ?_
          refine k_seq ?_
          (try simp only [List.nil_append, List.cons_append, List.set_cons_zero, List.set_cons_succ] at hS)
          refine k_region ?_
          refine r_move (by conv => lhs; whnf) rfl rfl ?_
          refine r_move (by conv => lhs; whnf) rfl rfl ?_
          refine r_index rfl rfl sl_26 (by omega) rfl rfl ?_
          refine r_load rfl (ld_arr (u := u) (hS.get (i := 4) rfl) sc_3 (by rw [hul]; omega)) rfl rfl ?_
          refine r_gtr rfl rfl rfl rfl ?_
          refine wpl_nil ?_
          refine thn ?_
          refine k_cond rfl (fun hc109 => ?_) (fun hc109 => ?_)
          · -- t
            skip
            have hpos : decide (0 < u.getD k 0) = true := decide_eq_true (of_decide_eq_true hc109)
            (try simp only [List.nil_append, List.cons_append, List.set_cons_zero, List.set_cons_succ] at hS)
            have hSb := hS
            apply k_draw (m := 7) (ss := [.val _, .val _, .val _, .val _, .val _, .val _, .val _]) mixed rfl (by kernel_rfl) (by kernel_rfl) rfl rfl rfl
            · refine ⟨?_, ?_, ?_, ?_, ?_, ?_, ?_, trivial⟩
              · -- op 0
                intro jnk vals lo hi w110 hE0 hd
                have hS := hS.step hE0
                refine r_load rfl (ld_ba hS (i := 5) rfl rfl rfl ag_35) rfl rfl ?_
                refine wpl_end ?_
                exact ⟨rfl, Ext.refl _ _, rfl⟩
              · -- op 1
                intro jnk vals lo hi w111 hE0 hd
                have hS := hS.step hE0
                refine r_field rfl fl_25_0 rfl rfl ?_
                refine wpl_end ?_
                exact ⟨rfl, Ext.refl _ _, rfl⟩
              · -- op 2
                intro jnk vals lo hi w112 hE0 hd
                have hS := hS.step hE0
                refine r_load rfl (ld_bs hS (i := 0) rfl rfl sc_22) rfl rfl ?_
                refine wpl_end ?_
                exact ⟨rfl, Ext.refl _ _, rfl⟩
              · -- op 3
                intro jnk vals lo hi w113 hE0 hd
                have hS := hS.step hE0
                refine r_move (by conv => lhs; whnf) rfl rfl ?_
                refine wpl_end ?_
                exact ⟨rfl, Ext.refl _ _, rfl⟩
              · -- op 4
                intro jnk vals lo hi w114 hE0 hd
                have hS := hS.step hE0
                refine r_index (congrArg (fun A => Value.slice A n1 c1) hAk) rfl sl_22 (by omega) rfl rfl ?_
                refine wpl_end ?_
                exact ⟨rfl, Ext.refl _ _, rfl⟩
              · -- op 5
                intro jnk vals lo hi w116 hE0 hd
                have hS := hS.step hE0
                refine r_field rfl fl_42_0 rfl rfl ?_
                refine wpl_end ?_
                exact ⟨rfl, Ext.refl _ _, rfl⟩
              · -- op 6
                intro jnk vals lo hi w117 hE0 hd
                have hS := hS.step hE0
                refine r_load rfl (ld_ag ((hck.ext hS.ext).at 0 2) ag_35 rfl) rfl rfl ?_
                refine wpl_end ?_
                exact ⟨rfl, Ext.refl _ _, rfl⟩
            · intro φ hφ v lo hi S w1 w2 hEa hEb hSb2
              simp at hφ
            intro jnk vals lo hi w119 hE0 hsat hdj hbd
            have hS := hS.step hE0
            refine r_call rfl (c23 _ _ _ _ _ (by omega) (by omega) (by omega) (by omega)) rfl rfl ?_
            rintro _ w120 ⟨rfl, hE⟩
            have hS := hS.step hE
            refine r_storea hS (i := 5) rfl rfl rfl sz_35 rfl rfl rfl ?_
            intro w121 hS hE
            refine wpl_nil ?_
            refine blk_n ?_
            refine thn ?_
            (try simp only [List.nil_append, List.cons_append, List.set_cons_zero, List.set_cons_succ] at hS)
            refine k_region ?_
            refine r_move (by conv => lhs; whnf) rfl rfl ?_
            refine r_add rfl rfl rfl rfl (by omega) ?_
            refine r_assign (by conv => lhs; whnf) rfl rfl ?_
            refine wpl_nil ?_
            refine thn ?_
            refine ⟨k + 1, ⟨rfl, trivial⟩, ?_, ?_, ?_, rfl⟩
            · refine ⟨by omega, ?_⟩
              simp only [HBook.wantTo_succ, hpos, cond_true, cond_false]
              exact hS
            · omega
            · (repeat (first | exact Agree.refl _ _ | exact agree_hv rfl (Agree.refl _ _) | refine agree_upd rfl ?_ | refine agree_mkF rfl ?_ | refine agree_hv rfl ?_))
          · -- f
            skip
            have hpos : decide (0 < u.getD k 0) = false := decide_eq_false (of_decide_eq_false hc109)
            refine k_skip ?_
            refine blk_n ?_
            refine thn ?_
            (try simp only [List.nil_append, List.cons_append, List.set_cons_zero, List.set_cons_succ] at hS)
            refine k_region ?_
            refine r_move (by conv => lhs; whnf) rfl rfl ?_
            refine r_add rfl rfl rfl rfl (by omega) ?_
            refine r_assign (by conv => lhs; whnf) rfl rfl ?_
            refine wpl_nil ?_
            refine thn ?_
            refine ⟨k + 1, ⟨rfl, trivial⟩, ?_, ?_, ?_, rfl⟩
            · refine ⟨by omega, ?_⟩
              simp only [HBook.wantTo_succ, hpos, cond_true, cond_false]
              exact hS
            · omega
            · (repeat (first | exact Agree.refl _ _ | exact agree_hv rfl (Agree.refl _ _) | refine agree_upd rfl ?_ | refine agree_mkF rfl ?_ | refine agree_hv rfl ?_))
        · -- f
          have hc1060 := hc106
          (try simp only [decide_eq_true_eq, decide_eq_false_iff_not, Bool.and_eq_true, Bool.and_eq_false_iff, Bool.not_eq_true', Bool.not_eq_false', Int.not_lt, Int.not_le] at hc106)
          have hk : k = n1 := by omega
          rw [hk] at hS
          refine k_exit ?_
          refine thn_e ?_
          refine thn_e ?_
          refine blk_e ?_
          refine thn ?_
          refine k_seq ?_
          (try simp only [List.nil_append, List.cons_append, List.set_cons_zero, List.set_cons_succ] at hS)
          refine k_region ?_
          refine r_move (by conv => lhs; whnf) rfl rfl ?_
          refine r_call rfl (c24 _ u _ _ _ ((cells_row (vs := u) (show Cells _ _ _ from by simpa using box_cells (hS.get (i := 4) rfl) 0) (by rw [hul]; omega)).cast hul) (by omega) (fun x hx => by have := hub x hx; omega)) rfl rfl ?_
          rintro _ w122 ⟨rfl, hE⟩
          have hS := hS.step hE
          refine r_assign (by conv => lhs; whnf) rfl rfl ?_
          refine wpl_nil ?_
          refine thn ?_
          refine k_seq ?_
          (try simp only [List.nil_append, List.cons_append, List.set_cons_zero, List.set_cons_succ] at hS)
          refine k_region ?_
          refine r_field rfl fl_25_0 rfl rfl ?_
          refine r_load rfl (ld_bs hS (i := 0) rfl rfl sc_22) rfl rfl ?_
          refine r_move (by conv => lhs; whnf) rfl rfl ?_
          refine r_index (congrArg (fun A => Value.slice A n1 c1) hAh) rfl sl_22 (by omega) rfl rfl ?_
          refine r_field rfl fl_42_0 rfl rfl ?_
          refine r_load rfl (ld_ag ((hch.ext hS.ext).at 0 2) ag_35 rfl) rfl rfl ?_
          refine r_alloc hS z_35 rfl rfl rfl ?_
          intro b19 w125 hS hE hB19
          refine r_storea hS (i := 6) rfl rfl rfl sz_35 rfl rfl rfl ?_
          intro w126 hS hE
          refine wpl_nil ?_
          refine thn ?_
          refine k_seq ?_
          (try simp only [List.nil_append, List.cons_append, List.set_cons_zero, List.set_cons_succ] at hS)
          have hSb := hS
          apply k_draw (m := 28) (ss := [.val _, .val _, .val _, .val _, .val _, .val _, .val _, .val _, .val _, .val _, .val _, .val _, .val _, .val _, .val _, .val _, .val _, .val _, .val _, .val _, .val _, .val _, .val _, .val _, .val _, .val _, .val _, .val _]) mixed rfl (by kernel_rfl) (by kernel_rfl) rfl rfl rfl
          · refine ⟨?_, ?_, ?_, ?_, ?_, ?_, ?_, ?_, ?_, ?_, ?_, ?_, ?_, ?_, ?_, ?_, ?_, ?_, ?_, ?_, ?_, ?_, ?_, ?_, ?_, ?_, ?_, ?_, trivial⟩
            · -- op 0
              intro jnk vals lo hi w127 hE0 hd
              have hS := hS.step hE0
              refine r_load rfl (ld_ba hS (i := 2) rfl rfl rfl ag_35) rfl rfl ?_
              refine wpl_end ?_
              exact ⟨rfl, Ext.refl _ _, rfl⟩
            · -- op 1
              intro jnk vals lo hi w128 hE0 hd
              have hS := hS.step hE0
              refine r_field rfl fl_35_0 rfl rfl ?_
              refine wpl_end ?_
              exact ⟨rfl, Ext.refl _ _, rfl⟩
            · -- op 2
              intro jnk vals lo hi w129 hE0 hd
              have hS := hS.step hE0
              refine r_load rfl (ld_bs hS (i := 5) rfl rfl sc_3) rfl rfl ?_
              refine wpl_end ?_
              exact ⟨rfl, Ext.refl _ _, rfl⟩
            · -- op 3
              intro jnk vals lo hi w130 hE0 hd
              have hS := hS.step hE0
              refine r_move (by conv => lhs; whnf) rfl rfl ?_
              refine wpl_end ?_
              exact ⟨rfl, Ext.refl _ _, rfl⟩
            · -- op 4
              intro jnk vals lo hi w131 hE0 hd
              have hS := hS.step hE0
              refine r_sub rfl rfl rfl rfl (by omega) ?_
              refine wpl_end ?_
              exact ⟨rfl, Ext.refl _ _, rfl⟩
            · -- op 5
              intro jnk vals lo hi w132 hE0 hd
              have hS := hS.step hE0
              refine r_field rfl fl_35_1 rfl rfl ?_
              refine wpl_end ?_
              exact ⟨rfl, Ext.refl _ _, rfl⟩
            · -- op 6
              intro jnk vals lo hi w133 hE0 hd
              have hS := hS.step hE0
              refine r_load rfl (ld_bs hS (i := 5) rfl rfl sc_3) rfl rfl ?_
              refine wpl_end ?_
              exact ⟨rfl, Ext.refl _ _, rfl⟩
            · -- op 7
              intro jnk vals lo hi w134 hE0 hd
              have hS := hS.step hE0
              refine r_move (by conv => lhs; whnf) rfl rfl ?_
              refine wpl_end ?_
              exact ⟨rfl, Ext.refl _ _, rfl⟩
            · -- op 8
              intro jnk vals lo hi w135 hE0 hd
              have hS := hS.step hE0
              refine r_sub rfl rfl rfl rfl (by omega) ?_
              refine wpl_end ?_
              exact ⟨rfl, Ext.refl _ _, rfl⟩
            · -- op 9
              intro jnk vals lo hi w136 hE0 hd
              have hS := hS.step hE0
              refine r_call rfl (c25 _ _ _) rfl rfl ?_
              rintro _ w137 ⟨rfl, hE⟩
              have hS := hS.step hE
              refine wpl_end ?_
              exact ⟨rfl, hE.of_no, rfl⟩
            · -- op 10
              intro jnk vals lo hi w138 hE0 hd
              have hS := hS.step hE0
              refine r_eqlsv (a := [b.wantTo u false n1 - sumTo u u.length, b.wantTo u true n1 - sumTo u u.length]) (b := [b.wantTo u false n1 - sumTo u u.length, b.wantTo u true n1 - sumTo u u.length]) ik_35 eg_35 rfl rfl rfl rfl (decide_eq_true rfl) rfl rfl ?_
              refine wpl_end ?_
              exact ⟨rfl, Ext.refl _ _, rfl⟩
            · -- op 11
              intro jnk vals lo hi w140 hE0 hd
              have hS := hS.step hE0
              refine r_move (by conv => lhs; whnf) rfl rfl ?_
              refine wpl_end ?_
              exact ⟨rfl, Ext.refl _ _, rfl⟩
            · -- op 12
              intro jnk vals lo hi w141 hE0 hd
              have hS := hS.step hE0
              refine r_load rfl (ld_ba hS (i := 3) rfl rfl rfl ag_35) rfl rfl ?_
              refine wpl_end ?_
              exact ⟨rfl, Ext.refl _ _, rfl⟩
            · -- op 13
              intro jnk vals lo hi w142 hE0 hd
              have hS := hS.step hE0
              refine r_field rfl fl_35_0 rfl rfl ?_
              refine wpl_end ?_
              exact ⟨rfl, Ext.refl _ _, rfl⟩
            · -- op 14
              intro jnk vals lo hi w143 hE0 hd
              have hS := hS.step hE0
              refine r_load rfl (ld_bs hS (i := 6) rfl rfl sc_3) rfl rfl ?_
              refine wpl_end ?_
              exact ⟨rfl, Ext.refl _ _, rfl⟩
            · -- op 15
              intro jnk vals lo hi w144 hE0 hd
              have hS := hS.step hE0
              refine r_move (by conv => lhs; whnf) rfl rfl ?_
              refine wpl_end ?_
              exact ⟨rfl, Ext.refl _ _, rfl⟩
            · -- op 16
              intro jnk vals lo hi w145 hE0 hd
              have hS := hS.step hE0
              refine r_move (by conv => lhs; whnf) rfl rfl ?_
              refine wpl_end ?_
              exact ⟨rfl, Ext.refl _ _, rfl⟩
            · -- op 17
              intro jnk vals lo hi w146 hE0 hd
              have hS := hS.step hE0
              refine r_index rfl rfl sl_26 (by omega) rfl rfl ?_
              refine wpl_end ?_
              exact ⟨rfl, Ext.refl _ _, rfl⟩
            · -- op 18
              intro jnk vals lo hi w148 hE0 hd
              have hS := hS.step hE0
              refine r_load rfl (ld_arr (u := u) (hS.get (i := 4) rfl) sc_3 (by rw [hul]; omega)) rfl rfl ?_
              refine wpl_end ?_
              exact ⟨rfl, Ext.refl _ _, rfl⟩
            · -- op 19
              intro jnk vals lo hi w150 hE0 hd
              have hS := hS.step hE0
              refine r_sub rfl rfl rfl rfl (by omega) ?_
              refine wpl_end ?_
              exact ⟨rfl, Ext.refl _ _, rfl⟩
            · -- op 20
              intro jnk vals lo hi w151 hE0 hd
              have hS := hS.step hE0
              refine r_field rfl fl_35_1 rfl rfl ?_
              refine wpl_end ?_
              exact ⟨rfl, Ext.refl _ _, rfl⟩
            · -- op 21
              intro jnk vals lo hi w152 hE0 hd
              have hS := hS.step hE0
              refine r_load rfl (ld_bs hS (i := 6) rfl rfl sc_3) rfl rfl ?_
              refine wpl_end ?_
              exact ⟨rfl, Ext.refl _ _, rfl⟩
            · -- op 22
              intro jnk vals lo hi w153 hE0 hd
              have hS := hS.step hE0
              refine r_move (by conv => lhs; whnf) rfl rfl ?_
              refine wpl_end ?_
              exact ⟨rfl, Ext.refl _ _, rfl⟩
            · -- op 23
              intro jnk vals lo hi w154 hE0 hd
              have hS := hS.step hE0
              refine r_move (by conv => lhs; whnf) rfl rfl ?_
              refine wpl_end ?_
              exact ⟨rfl, Ext.refl _ _, rfl⟩
            · -- op 24
              intro jnk vals lo hi w155 hE0 hd
              have hS := hS.step hE0
              refine r_index rfl rfl sl_26 (by omega) rfl rfl ?_
              refine wpl_end ?_
              exact ⟨rfl, Ext.refl _ _, rfl⟩
            · -- op 25
              intro jnk vals lo hi w157 hE0 hd
              have hS := hS.step hE0
              refine r_load rfl (ld_arr (u := u) (hS.get (i := 4) rfl) sc_3 (by rw [hul]; omega)) rfl rfl ?_
              refine wpl_end ?_
              exact ⟨rfl, Ext.refl _ _, rfl⟩
            · -- op 26
              intro jnk vals lo hi w159 hE0 hd
              have hS := hS.step hE0
              refine r_sub rfl rfl rfl rfl (by omega) ?_
              refine wpl_end ?_
              exact ⟨rfl, Ext.refl _ _, rfl⟩
            · -- op 27
              intro jnk vals lo hi w160 hE0 hd
              have hS := hS.step hE0
              refine r_call rfl (c25 _ _ _) rfl rfl ?_
              rintro _ w161 ⟨rfl, hE⟩
              have hS := hS.step hE
              refine wpl_end ?_
              exact ⟨rfl, hE.of_no, rfl⟩
          · intro φ hφ v lo hi S w1 w2 hEa hEb hSb2
            simp at hφ
          intro jnk vals lo hi w162 hE0 hsat hdj hbd
          have hS := hS.step hE0
          refine r_eqlsv (a := [(b.hanks.getD h.toNat Hank0).w.lo - u.getD h.toNat 0, (b.hanks.getD h.toNat Hank0).w.hi - u.getD h.toNat 0]) (b := [(b.hanks.getD h.toNat Hank0).w.lo - u.getD h.toNat 0, (b.hanks.getD h.toNat Hank0).w.hi - u.getD h.toNat 0]) ik_35 eg_35 rfl rfl rfl rfl (decide_eq_true rfl) rfl rfl ?_
          refine r_pick_t rfl (by conv => lhs; whnf) rfl rfl ?_
          refine r_move (by conv => lhs; whnf) rfl rfl ?_
          refine r_field rfl fl_35_0 rfl rfl ?_
          refine r_load rfl (ld_bs hS (i := 3) rfl rfl sc_3) rfl rfl ?_
          refine r_geqv rfl rfl (decide_eq_true (by omega)) rfl rfl ?_
          refine r_pick_t rfl (by conv => lhs; whnf) rfl rfl ?_
          refine r_move (by conv => lhs; whnf) rfl rfl ?_
          refine r_call rfl (c15 _ (hP.ext hS.ext)) rfl rfl ?_
          rintro _ w165 ⟨rfl, hE⟩
          have hS := hS.step hE
          refine r_pick_t rfl (by conv => lhs; whnf) rfl rfl ?_
          refine r_assign (by conv => lhs; whnf) rfl rfl ?_
          refine wpl_nil ?_
          refine thn ?_
          refine ret1 (fun _ _ _ => rfl) (by conv => lhs; whnf) ?_
          exact ⟨rfl, hS.ext⟩
end Go.Proofs.YtofpabocpcfbfaaDoor

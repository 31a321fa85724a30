/- Walks: T28. -/
import Derived.Test.YtofpabocpcfbfaaDoorMF
import Derived.Test.YtofpabocpcfbfaaDoorCT23
import Derived.Test.YtofpabocpcfbfaaDoorMD2
set_option linter.unusedSimpArgs false
set_option linter.unusedVariables false
namespace Go.Proofs.YtofpabocpcfbfaaDoor
open Go Go.Proofs K

set_option maxHeartbeats 1000000 in
set_option maxRecDepth 100000 in
theorem c8 (w : World) (b : HBook) (A1 A2 : Option Addr) (n1 c1 n2 c2 : Nat) (h1 : RdRow Hank.enc 4 w A1 n1 b.hanks) (h2 : RdRow Horse.enc 3 w A2 n2 b.horses) (hP : Parts w) (m0 m1 : Int) : Cv Tryd.prog 8 #[.agg #[.slice A1 n1 c1, .slice A2 n2 c2, .int .i64 b.dark, .int .i64 b.near, .int .i64 b.mat], .agg #[.int .i64 m0, .int .i64 m1]] w (fun v w' => v = .bool true ∧ Ext no w w') := by
  refine cv_intro Tryd.func8 rfl rfl Tryd.ntmps8 rfl (by kernel_rfl) ?_
  have hS := St.nil w
  have hl1 := h1.1
  have hl2 := h2.1
  have hb1 := h1.2.1
  have hb2 := h2.2.1
  refine k_seq ?_
  refine k_region ?_
  refine r_boxa hS rfl rfl rfl ?_
  intro b2 w1 hS hE hB2
  refine r_boxa hS rfl rfl rfl ?_
  intro b3 w2 hS hE hB3
  refine r_assign (by conv => lhs; whnf) rfl rfl ?_
  refine wpl_nil ?_
  refine thn ?_
  refine k_seq ?_
  refine k_seq ?_
  refine k_region ?_
  refine r_load rfl (ld_ba hS (i := 0) rfl rfl rfl ag_25) rfl rfl ?_
  refine r_call rfl (c14 _ b A1 A2 n1 c1 n2 c2 (h1.ext hS.ext) (h2.ext hS.ext)) rfl rfl ?_
  rintro _ w3 ⟨rfl, hE⟩
  have hS := hS.step hE
  refine r_not rfl rfl rfl ?_
  refine r_moveb rfl rfl rfl (fun hb4 => ?_) (fun hb4 => ?_)
  · -- True
    have hb40 := hb4
    (try simp only [decide_eq_true_eq, decide_eq_false_iff_not, Bool.and_eq_true, Bool.and_eq_false_iff, Bool.not_eq_true', Bool.not_eq_false', Int.not_lt, Int.not_le] at hb4)
    refine r_skip rfl rfl ?_
    refine r_skip rfl rfl ?_
    refine r_skip rfl rfl ?_
    refine r_skip rfl rfl ?_
    refine r_pick_t rfl (by conv => lhs; whnf) rfl rfl ?_
    refine r_move (by conv => lhs; whnf) rfl rfl ?_
    refine r_skip rfl rfl ?_
    refine r_skip rfl rfl ?_
    refine r_skip rfl rfl ?_
    refine r_skip rfl rfl ?_
    refine r_pick_t rfl (by conv => lhs; whnf) rfl rfl ?_
    refine wpl_nil ?_
    refine thn ?_
    refine k_cond_t rfl ?_
    refine k_seq ?_
    refine k_region ?_
    refine r_call rfl (c15 _ (hP.ext hS.ext)) rfl rfl ?_
    rintro _ w5 ⟨rfl, hE⟩
    have hS := hS.step hE
    refine r_assign (by conv => lhs; whnf) rfl rfl ?_
    refine wpl_nil ?_
    refine thn ?_
    refine ret1 (fun _ _ _ => rfl) (by conv => lhs; whnf) ?_
    exact ⟨rfl, hS.ext⟩
  · -- False
    have hb40 := hb4
    (try simp only [decide_eq_true_eq, decide_eq_false_iff_not, Bool.and_eq_true, Bool.and_eq_false_iff, Bool.not_eq_true', Bool.not_eq_false', Int.not_lt, Int.not_le] at hb4)
    have hv : b.valid = true := by simpa using hb4
    refine r_field rfl fl_25_0 rfl rfl ?_
    refine r_load rfl (ld_bs hS (i := 0) rfl rfl sc_22) rfl rfl ?_
    refine r_len rfl sl_22 rfl rfl ?_
    refine r_eql rfl rfl rfl rfl ?_
    refine r_pick_f rfl (by conv => lhs; whnf) rfl rfl ?_
    refine r_moveb rfl rfl rfl (fun hb6 => ?_) (fun hb6 => ?_)
    · -- True
      have hb60 := hb6
      (try simp only [decide_eq_true_eq, decide_eq_false_iff_not, Bool.and_eq_true, Bool.and_eq_false_iff, Bool.not_eq_true', Bool.not_eq_false', Int.not_lt, Int.not_le] at hb6)
      refine r_skip rfl rfl ?_
      refine r_skip rfl rfl ?_
      refine r_skip rfl rfl ?_
      refine r_skip rfl rfl ?_
      refine r_pick_t rfl (by conv => lhs; whnf) rfl rfl ?_
      refine wpl_nil ?_
      refine thn ?_
      refine k_cond_t rfl ?_
      refine k_seq ?_
      refine k_region ?_
      refine r_call rfl (c15 _ (hP.ext hS.ext)) rfl rfl ?_
      rintro _ w7 ⟨rfl, hE⟩
      have hS := hS.step hE
      refine r_assign (by conv => lhs; whnf) rfl rfl ?_
      refine wpl_nil ?_
      refine thn ?_
      refine ret1 (fun _ _ _ => rfl) (by conv => lhs; whnf) ?_
      exact ⟨rfl, hS.ext⟩
    · -- False
      have hb60 := hb6
      (try simp only [decide_eq_true_eq, decide_eq_false_iff_not, Bool.and_eq_true, Bool.and_eq_false_iff, Bool.not_eq_true', Bool.not_eq_false', Int.not_lt, Int.not_le] at hb6)
      have hn0 : n1 ≠ 0 := by omega
      refine r_field rfl fl_25_1 rfl rfl ?_
      refine r_load rfl (ld_bs hS (i := 0) rfl rfl sc_23) rfl rfl ?_
      refine r_len rfl sl_23 rfl rfl ?_
      refine r_eql rfl rfl rfl rfl ?_
      refine r_pick_f rfl (by conv => lhs; whnf) rfl rfl ?_
      refine wpl_nil ?_
      refine thn ?_
      refine k_cond rfl (fun hc8 => ?_) (fun hc8 => ?_)
      · -- t
        have hc80 := hc8
        (try simp only [decide_eq_true_eq, decide_eq_false_iff_not, Bool.and_eq_true, Bool.and_eq_false_iff, Bool.not_eq_true', Bool.not_eq_false', Int.not_lt, Int.not_le] at hc8)
        refine k_seq ?_
        refine k_region ?_
        refine r_call rfl (c15 _ (hP.ext hS.ext)) rfl rfl ?_
        rintro _ w9 ⟨rfl, hE⟩
        have hS := hS.step hE
        refine r_assign (by conv => lhs; whnf) rfl rfl ?_
        refine wpl_nil ?_
        refine thn ?_
        refine ret1 (fun _ _ _ => rfl) (by conv => lhs; whnf) ?_
        exact ⟨rfl, hS.ext⟩
      · -- f
        have hc80 := hc8
        (try simp only [decide_eq_true_eq, decide_eq_false_iff_not, Bool.and_eq_true, Bool.and_eq_false_iff, Bool.not_eq_true', Bool.not_eq_false', Int.not_lt, Int.not_le] at hc8)
        have hm0 : n2 ≠ 0 := by omega
        refine k_skip ?_
        refine thn ?_
        refine k_seq ?_
        have hg := (GoodB.of_valid hv).1
        have hg1 := hg.l1
        have hg2 := hg.l2
        have hck : b.chk = 0 := by unfold HBook.chk; rw [hv]; rfl
        have hgd := hg.dark
        have hgn := hg.near
        obtain ⟨i, hid⟩ : ∃ i, i = roundI m0 n2 := ⟨_, rfl⟩
        have hi : 0 ≤ i ∧ i < n2 := by rw [hid]; exact roundI_bd (by omega)
        obtain ⟨h, hhd⟩ : ∃ h, h = roundI m1 n1 := ⟨_, rfl⟩
        have hh : 0 ≤ h ∧ h < n1 := by rw [hhd]; exact roundI_bd (by omega)
        have hsame := HBook.same_law hv (i := i) (h := h) (by omega) (by omega)
        obtain ⟨ah, hAh, hch⟩ := h1.at (d := Hank0) hh
        obtain ⟨ax, hAx, hcx⟩ := h2.at (d := Horse0) hi
        have hq := hg.hankAt (k := h) (by omega)
        have hx := hg.horseAt (k := i) (by omega)
        unfold HBook.hank at hq
        unfold HBook.horse at hx
        have hSb := hS
        apply k_draw (m := 11) (ss := [.val _, .val _, .val _, .val _, .val _, .val _, .val _, .val _, .val _, .val _, .val _]) mixed rfl (by kernel_rfl) (by kernel_rfl) rfl rfl rfl
        · refine ⟨?_, ?_, ?_, ?_, ?_, ?_, ?_, ?_, ?_, ?_, ?_, trivial⟩
          · -- op 0
            intro jnk vals lo hi w10 hE0 hd
            have hS := hS.step hE0
            refine r_indexa rfl rfl ar_61 (by omega) rfl rfl ?_
            refine wpl_end ?_
            exact ⟨rfl, Ext.refl _ _, rfl⟩
          · -- op 1
            intro jnk vals lo hi w11 hE0 hd
            have hS := hS.step hE0
            refine r_load rfl (ld_bs hS (i := 1) rfl rfl sc_3) rfl rfl ?_
            refine wpl_end ?_
            exact ⟨rfl, Ext.refl _ _, rfl⟩
          · -- op 2
            intro jnk vals lo hi w12 hE0 hd
            have hS := hS.step hE0
            refine r_field rfl fl_25_1 rfl rfl ?_
            refine wpl_end ?_
            exact ⟨rfl, Ext.refl _ _, rfl⟩
          · -- op 3
            intro jnk vals lo hi w13 hE0 hd
            have hS := hS.step hE0
            refine r_load rfl (ld_bs hS (i := 0) rfl rfl sc_23) rfl rfl ?_
            refine wpl_end ?_
            exact ⟨rfl, Ext.refl _ _, rfl⟩
          · -- op 4
            intro jnk vals lo hi w14 hE0 hd
            have hS := hS.step hE0
            refine r_len rfl sl_23 rfl rfl ?_
            refine wpl_end ?_
            exact ⟨rfl, Ext.refl _ _, rfl⟩
          · -- op 5
            intro jnk vals lo hi w15 hE0 hd
            have hS := hS.step hE0
            refine r_call rfl (c17 _ m0 _ (by omega)) rfl rfl ?_
            rintro _ w16 ⟨rfl, hE⟩
            have hS := hS.step hE
            rw [← hid]
            refine wpl_end ?_
            exact ⟨rfl, hE.of_no, rfl⟩
          · -- op 6
            intro jnk vals lo hi w17 hE0 hd
            have hS := hS.step hE0
            refine r_indexa rfl rfl ar_61 (by omega) rfl rfl ?_
            refine wpl_end ?_
            exact ⟨rfl, Ext.refl _ _, rfl⟩
          · -- op 7
            intro jnk vals lo hi w18 hE0 hd
            have hS := hS.step hE0
            refine r_load rfl (ld_bs hS (i := 1) rfl rfl sc_3) rfl rfl ?_
            refine wpl_end ?_
            exact ⟨rfl, Ext.refl _ _, rfl⟩
          · -- op 8
            intro jnk vals lo hi w19 hE0 hd
            have hS := hS.step hE0
            refine r_field rfl fl_25_0 rfl rfl ?_
            refine wpl_end ?_
            exact ⟨rfl, Ext.refl _ _, rfl⟩
          · -- op 9
            intro jnk vals lo hi w20 hE0 hd
            have hS := hS.step hE0
            refine r_load rfl (ld_bs hS (i := 0) rfl rfl sc_22) rfl rfl ?_
            refine wpl_end ?_
            exact ⟨rfl, Ext.refl _ _, rfl⟩
          · -- op 10
            intro jnk vals lo hi w21 hE0 hd
            have hS := hS.step hE0
            refine r_len rfl sl_22 rfl rfl ?_
            refine wpl_end ?_
            exact ⟨rfl, Ext.refl _ _, rfl⟩
        · intro φ hφ v lo hi S w1 w2 hEa hEb hSb2
          simp at hφ
        intro jnk vals lo hi w22 hE0 hsat hdj hbd
        have hS := hS.step hE0
        refine r_call rfl (c17 _ m1 _ (by omega)) rfl rfl ?_
        rintro _ w23 ⟨rfl, hE⟩
        have hS := hS.step hE
        rw [← hhd]
        refine r_assign (by conv => lhs; whnf) rfl rfl ?_
        refine r_assign (by conv => lhs; whnf) rfl rfl ?_
        refine wpl_nil ?_
        refine thn ?_
        refine k_seq ?_
        refine k_region ?_
        refine r_load rfl (ld_ba hS (i := 0) rfl rfl rfl ag_25) rfl rfl ?_
        refine r_move (by conv => lhs; whnf) rfl rfl ?_
        refine r_move (by conv => lhs; whnf) rfl rfl ?_
        refine r_move (by conv => lhs; whnf) rfl rfl ?_
        refine r_call rfl (c37 _ b A1 A2 n1 c1 n2 c2 (h1.ext hS.ext) (h2.ext hS.ext) (hP.ext hS.ext) i h h) rfl rfl ?_
        rintro _ w24 ⟨rfl, hE⟩
        have hS := hS.step hE
        refine r_move (by conv => lhs; whnf) rfl rfl ?_
        refine r_extract rfl rfl rfl rfl ?_
        refine r_extract rfl rfl rfl rfl ?_
        refine r_extract rfl rfl rfl rfl ?_
        refine r_assign (by conv => lhs; whnf) rfl rfl ?_
        refine r_assign (by conv => lhs; whnf) rfl rfl ?_
        refine r_assign (by conv => lhs; whnf) rfl rfl ?_
        refine wpl_nil ?_
        refine thn ?_
        refine k_seq ?_
        have hSb := hS
        apply k_draw (m := 14) (ss := [.val _, .val _, .val _, .val _, .val _, .val _, .val _, .val _, .val _, .val _, .val _, .val _, .ex (Mk 35 _), .st 12 (Mk 35 _)]) mixed rfl (by kernel_rfl) (by kernel_rfl) rfl rfl rfl
        · refine ⟨?_, ?_, ?_, ?_, ?_, ?_, ?_, ?_, ?_, ?_, ?_, ?_, ?_, ?_, trivial⟩
          · -- op 0
            intro jnk vals lo hi w25 hE0 hd
            have hS := hS.step hE0
            refine r_field rfl fl_25_0 rfl rfl ?_
            refine wpl_end ?_
            exact ⟨rfl, Ext.refl _ _, rfl⟩
          · -- op 1
            intro jnk vals lo hi w26 hE0 hd
            have hS := hS.step hE0
            refine r_load rfl (ld_bs hS (i := 0) rfl rfl sc_22) rfl rfl ?_
            refine wpl_end ?_
            exact ⟨rfl, Ext.refl _ _, rfl⟩
          · -- op 2
            intro jnk vals lo hi w27 hE0 hd
            have hS := hS.step hE0
            refine r_move (by conv => lhs; whnf) rfl rfl ?_
            refine wpl_end ?_
            exact ⟨rfl, Ext.refl _ _, rfl⟩
          · -- op 3
            intro jnk vals lo hi w28 hE0 hd
            have hS := hS.step hE0
            refine r_index (congrArg (fun A => Value.slice A n1 c1) hAh) rfl sl_22 (by omega) rfl rfl ?_
            refine wpl_end ?_
            exact ⟨rfl, Ext.refl _ _, rfl⟩
          · -- op 4
            intro jnk vals lo hi w30 hE0 hd
            have hS := hS.step hE0
            refine r_field rfl fl_42_1 rfl rfl ?_
            refine wpl_end ?_
            exact ⟨rfl, Ext.refl _ _, rfl⟩
          · -- op 5
            intro jnk vals lo hi w31 hE0 hd
            have hS := hS.step hE0
            refine r_load rfl (ld_ag ((hch.ext hS.ext).at 2 2) ag_35 rfl) rfl rfl ?_
            refine wpl_end ?_
            exact ⟨rfl, Ext.refl _ _, rfl⟩
          · -- op 6
            intro jnk vals lo hi w33 hE0 hd
            have hS := hS.step hE0
            refine r_field rfl fl_25_1 rfl rfl ?_
            refine wpl_end ?_
            exact ⟨rfl, Ext.refl _ _, rfl⟩
          · -- op 7
            intro jnk vals lo hi w34 hE0 hd
            have hS := hS.step hE0
            refine r_load rfl (ld_bs hS (i := 0) rfl rfl sc_23) rfl rfl ?_
            refine wpl_end ?_
            exact ⟨rfl, Ext.refl _ _, rfl⟩
          · -- op 8
            intro jnk vals lo hi w35 hE0 hd
            have hS := hS.step hE0
            refine r_move (by conv => lhs; whnf) rfl rfl ?_
            refine wpl_end ?_
            exact ⟨rfl, Ext.refl _ _, rfl⟩
          · -- op 9
            intro jnk vals lo hi w36 hE0 hd
            have hS := hS.step hE0
            refine r_index (congrArg (fun A => Value.slice A n2 c2) hAx) rfl sl_23 (by omega) rfl rfl ?_
            refine wpl_end ?_
            exact ⟨rfl, Ext.refl _ _, rfl⟩
          · -- op 10
            intro jnk vals lo hi w38 hE0 hd
            have hS := hS.step hE0
            refine r_field rfl fl_65_2 rfl rfl ?_
            refine wpl_end ?_
            exact ⟨rfl, Ext.refl _ _, rfl⟩
          · -- op 11
            intro jnk vals lo hi w39 hE0 hd
            have hS := hS.step hE0
            refine r_load rfl (ld_sc ((hcx.ext hS.ext) 2 _ rfl) sc_3) rfl rfl ?_
            refine wpl_end ?_
            exact ⟨rfl, Ext.refl _ _, rfl⟩
          · -- op 12
            intro jnk vals lo hi w41 hE0 hd
            have hS := hS.step hE0
            refine r_alloc hS z_35 rfl rfl rfl ?_
            intro b10 w42 hS hE hB10
            refine wpl_end ?_
            exact ⟨rfl, hE.of_no, mk_alloc (hS.get (i := 2) rfl) hB10⟩
          · -- op 13
            intro jnk vals lo hi w43 hE0 hd
            have hS := hS.step hE0
            obtain ⟨b12, hv12, hl12, hh12, hb12⟩ := hd 12 (by decide) rfl
            rw [vset_eq hv12]
            refine r_store0 rfl rfl rfl hb12 sz_35 rfl rfl rfl ?_
            intro w44 hE hb
            refine wpl_end ?_
            exact ⟨rfl, ext_wr hE ⟨12, rfl, hl12, hh12⟩, ⟨b12, rfl, hl12, hh12, hb⟩⟩
        · intro φ hφ v lo hi S w1 w2 hEa hEb hSb2
          rcases hφ with hφ | ⟨j, hφ⟩
          · simp at hφ
            subst hφ
            all_goals first | exact mk_stays hEa hEb hSb2 | exact row_stays hEa hEb hSb2 | exact rown_stays hEa hEb hSb2
          · simp at hφ
            obtain ⟨_, rfl⟩ := hφ
            all_goals first | exact mk_stays hEa hEb hSb2 | exact row_stays hEa hEb hSb2 | exact rown_stays hEa hEb hSb2
        intro jnk vals lo hi w45 hE0 hsat hdj hbd
        obtain ⟨c45_12, hv12, hl12, hh12, hb12⟩ := hsat 13 (by decide) rfl
        rw [vset_eq hv12]
        have hS := mk_add1 (v := .nilFunc) hS hE0 (hbd 12 (by decide)) hl12 hh12 hb12
        refine r_assign (by conv => lhs; whnf) rfl rfl ?_
        refine wpl_nil ?_
        refine thn ?_
        refine k_seq ?_
        (try simp only [List.nil_append, List.cons_append, List.set_cons_zero, List.set_cons_succ] at hS)
        refine k_region ?_
        refine r_assign (by conv => lhs; whnf) rfl rfl ?_
        refine wpl_nil ?_
        refine thn ?_
        refine k_seq ?_
        refine k_seq ?_
        (try simp only [List.nil_append, List.cons_append, List.set_cons_zero, List.set_cons_succ] at hS)
        refine k_region ?_
        refine r_field rfl fl_25_2 rfl rfl ?_
        refine r_load rfl (ld_bs hS (i := 0) rfl rfl sc_3) rfl rfl ?_
        refine r_assign (by conv => lhs; whnf) rfl rfl ?_
        refine wpl_nil ?_
        refine thn ?_
        refine k_block ?_
        refine k_loop (ι := Nat) [12, 13, 65, 66, 67, 68, 69, 70, 71, 72, 73, 74, 75, 76, 77, 78, 79, 80, 81, 82, 83, 84, 85, 86, 87] (fun k => [(12, .int .i64 (b.firstF i h k)), (13, .int .i64 (b.dark - k))]) (fun k w' => k ≤ (b.dark + 1).toNat ∧ St (bs w) w' [box b2 25 [.slice A1 n1 c1, .slice A2 n2 c2, .int .i64 b.dark, .int .i64 b.near, .int .i64 b.mat], box b3 61 [.int .i64 m0, .int .i64 m1], box c45_12 35 [.int .i64 (b.hanks.getD h.toNat Hank0).s.lo, .int .i64 (b.hanks.getD h.toNat Hank0).s.hi]]) (fun k => (b.dark + 1).toNat - k) 0 ⟨rfl, (by refine congrArg iv ?_; omega), trivial⟩ ⟨Nat.zero_le _, hS⟩ ?_
        rintro k j w2 ⟨hk0, hS⟩
        refine k_seq ?_
        refine k_seq ?_
        (try simp only [List.nil_append, List.cons_append, List.set_cons_zero, List.set_cons_succ] at hS)
        refine k_region ?_
        refine r_move (by conv => lhs; whnf) rfl rfl ?_
        refine r_geq rfl rfl rfl rfl ?_
        refine wpl_nil ?_
        refine thn ?_
        refine k_cond rfl (fun hc47 => ?_) (fun hc47 => ?_)
        · -- t
          have hc470 := hc47
          (try simp only [decide_eq_true_eq, decide_eq_false_iff_not, Bool.and_eq_true, Bool.and_eq_false_iff, Bool.not_eq_true', Bool.not_eq_false', Int.not_lt, Int.not_le] at hc47)
          have hk : (k : Int) ≤ b.dark := by omega
          refine k_skip ?_
          refine thn ?_
          refine k_seq ?_
          refine k_block ?_
          refine k_seq ?_
          (try simp only [List.nil_append, List.cons_append, List.set_cons_zero, List.set_cons_succ] at hS)
          refine k_region ?_
          refine r_field rfl fl_35_0 rfl rfl ?_
          refine r_load rfl (ld_bs hS (i := 2) rfl rfl sc_3) rfl rfl ?_
          refine r_move (by conv => lhs; whnf) rfl rfl ?_
          refine r_add rfl rfl rfl rfl (by omega) ?_
          refine r_move (by conv => lhs; whnf) rfl rfl ?_
          refine r_field rfl fl_25_3 rfl rfl ?_
          refine r_load rfl (ld_bs hS (i := 0) rfl rfl sc_3) rfl rfl ?_
          refine r_call rfl (c38 _ _ _ _ (by omega) (by omega)) rfl rfl ?_
          rintro _ w48 ⟨rfl, hE⟩
          have hS := hS.step hE
          refine r_moveb rfl rfl rfl (fun hb49 => ?_) (fun hb49 => ?_)
          · -- True
            skip
            have ho1 := hb49
            refine r_field rfl fl_35_1 rfl rfl ?_
            refine r_load rfl (ld_bs hS (i := 2) rfl rfl sc_3) rfl rfl ?_
            refine r_move (by conv => lhs; whnf) rfl rfl ?_
            refine r_add rfl rfl rfl rfl (by omega) ?_
            refine r_move (by conv => lhs; whnf) rfl rfl ?_
            refine r_field rfl fl_25_3 rfl rfl ?_
            refine r_load rfl (ld_bs hS (i := 0) rfl rfl sc_3) rfl rfl ?_
            refine r_call rfl (c38 _ _ _ _ (by omega) (by omega)) rfl rfl ?_
            rintro _ w50 ⟨rfl, hE⟩
            have hS := hS.step hE
            refine r_pick_t rfl (by conv => lhs; whnf) rfl rfl ?_
            refine wpl_nil ?_
            refine thn ?_
            refine k_cond rfl (fun hc51 => ?_) (fun hc51 => ?_)
            · -- t
              skip
              have ho2 := hc51
              (try simp only [List.nil_append, List.cons_append, List.set_cons_zero, List.set_cons_succ] at hS)
              refine k_region ?_
              refine r_move (by conv => lhs; whnf) rfl rfl ?_
              refine r_assign (by conv => lhs; whnf) rfl rfl ?_
              refine wpl_nil ?_
              refine blk_n ?_
              refine thn ?_
              (try simp only [List.nil_append, List.cons_append, List.set_cons_zero, List.set_cons_succ] at hS)
              refine k_region ?_
              refine r_move (by conv => lhs; whnf) rfl rfl ?_
              refine r_sub rfl rfl rfl rfl (by omega) ?_
              refine r_assign (by conv => lhs; whnf) rfl rfl ?_
              refine wpl_nil ?_
              refine thn ?_
              have hok : b.okD i h (b.dark - k) = true := by unfold HBook.okD; exact (congr (congrArg and ho1) ho2).trans rfl
              have hfs : b.firstF i h (k + 1) = b.dark - k := by rw [HBook.firstF, hok]; rfl
              refine ⟨k + 1, ⟨(by rw [hfs]; rfl), (by refine congrArg iv ?_; omega), trivial⟩, ?_, ?_, ?_, rfl⟩
              · exact ⟨by omega, hS⟩
              · omega
              · (repeat (first | exact Agree.refl _ _ | exact agree_hv rfl (Agree.refl _ _) | refine agree_upd rfl ?_ | refine agree_mkF rfl ?_ | refine agree_hv rfl ?_))
            · -- f
              skip
              have ho2 := hc51
              refine k_skip ?_
              refine blk_n ?_
              refine thn ?_
              (try simp only [List.nil_append, List.cons_append, List.set_cons_zero, List.set_cons_succ] at hS)
              refine k_region ?_
              refine r_move (by conv => lhs; whnf) rfl rfl ?_
              refine r_sub rfl rfl rfl rfl (by omega) ?_
              refine r_assign (by conv => lhs; whnf) rfl rfl ?_
              refine wpl_nil ?_
              refine thn ?_
              have hok : b.okD i h (b.dark - k) = false := by unfold HBook.okD; first | exact (congrArg (fun z => z && _) ho1).trans rfl | exact (congrArg (fun z => _ && z) ho2).trans (Bool.and_false _)
              have hfs : b.firstF i h (k + 1) = b.firstF i h k := by rw [HBook.firstF, hok]; rfl
              refine ⟨k + 1, ⟨(by rw [hfs]; rfl), (by refine congrArg iv ?_; omega), trivial⟩, ?_, ?_, ?_, rfl⟩
              · exact ⟨by omega, hS⟩
              · omega
              · (repeat (first | exact Agree.refl _ _ | exact agree_hv rfl (Agree.refl _ _) | refine agree_upd rfl ?_ | refine agree_mkF rfl ?_ | refine agree_hv rfl ?_))
          · -- False
            skip
            have ho1 := hb49
            refine r_skip rfl rfl ?_
            refine r_skip rfl rfl ?_
            refine r_skip rfl rfl ?_
            refine r_skip rfl rfl ?_
            refine r_skip rfl rfl ?_
            refine r_skip rfl rfl ?_
            refine r_skip rfl rfl ?_
            refine r_skip rfl rfl ?_
            refine r_pick_f rfl (by conv => lhs; whnf) rfl rfl ?_
            refine wpl_nil ?_
            refine thn ?_
            refine k_cond_f rfl ?_
            refine k_skip ?_
            refine blk_n ?_
            refine thn ?_
            (try simp only [List.nil_append, List.cons_append, List.set_cons_zero, List.set_cons_succ] at hS)
            refine k_region ?_
            refine r_move (by conv => lhs; whnf) rfl rfl ?_
            refine r_sub rfl rfl rfl rfl (by omega) ?_
            refine r_assign (by conv => lhs; whnf) rfl rfl ?_
            refine wpl_nil ?_
            refine thn ?_
            have hok : b.okD i h (b.dark - k) = false := by unfold HBook.okD; first | exact (congrArg (fun z => z && _) ho1).trans rfl | exact (congrArg (fun z => _ && z) ho2).trans (Bool.and_false _)
            have hfs : b.firstF i h (k + 1) = b.firstF i h k := by rw [HBook.firstF, hok]; rfl
            refine ⟨k + 1, ⟨(by rw [hfs]; rfl), (by refine congrArg iv ?_; omega), trivial⟩, ?_, ?_, ?_, rfl⟩
            · exact ⟨by omega, hS⟩
            · omega
            · (repeat (first | exact Agree.refl _ _ | exact agree_hv rfl (Agree.refl _ _) | refine agree_upd rfl ?_ | refine agree_mkF rfl ?_ | refine agree_hv rfl ?_))
        · -- f
          have hc470 := hc47
          (try simp only [decide_eq_true_eq, decide_eq_false_iff_not, Bool.and_eq_true, Bool.and_eq_false_iff, Bool.not_eq_true', Bool.not_eq_false', Int.not_lt, Int.not_le] at hc47)
          have hk : k = (b.dark + 1).toNat := by omega
          subst hk
          refine k_exit ?_
          refine thn_e ?_
          refine thn_e ?_
          refine blk_e ?_
          refine thn ?_
          refine k_seq ?_
          refine k_seq ?_
          (try simp only [List.nil_append, List.cons_append, List.set_cons_zero, List.set_cons_succ] at hS)
          refine k_region ?_
          refine r_move (by conv => lhs; whnf) rfl rfl ?_
          refine r_lss rfl rfl rfl rfl ?_
          refine wpl_nil ?_
          refine thn ?_
          refine k_cond rfl (fun hc52 => ?_) (fun hc52 => ?_)
          · -- t
            have hc520 := hc52
            (try simp only [decide_eq_true_eq, decide_eq_false_iff_not, Bool.and_eq_true, Bool.and_eq_false_iff, Bool.not_eq_true', Bool.not_eq_false', Int.not_lt, Int.not_le] at hc52)
            obtain ⟨_, hlE, hlV⟩ : b.firstF i h (b.dark + 1).toNat < 0 ∧ b.dyesE i h h = 4 ∧ b.dyesV i h h = (0, 0) := by
              rcases hsame with h9 | h9
              · exact h9
              · omega
            have hl1 : (b.dyesV i h h).1 = 0 := by rw [hlV]
            have hl2 : (b.dyesV i h h).2 = 0 := by rw [hlV]
            refine k_seq ?_
            (try simp only [List.nil_append, List.cons_append, List.set_cons_zero, List.set_cons_succ] at hS)
            refine k_region ?_
            refine r_move (by conv => lhs; whnf) rfl rfl ?_
            refine r_eqlv rfl rfl (decide_eq_true (hlE)) rfl rfl ?_
            refine r_move (by conv => lhs; whnf) rfl rfl ?_
            refine r_move (by conv => lhs; whnf) rfl rfl ?_
            refine r_move (by conv => lhs; whnf) rfl rfl ?_
            refine r_add rfl rfl rfl rfl (by omega) ?_
            refine r_eqlv rfl rfl (decide_eq_true (by omega)) rfl rfl ?_
            refine r_pick_t rfl (by conv => lhs; whnf) rfl rfl ?_
            refine r_move (by conv => lhs; whnf) rfl rfl ?_
            refine r_call rfl (c15 _ (hP.ext hS.ext)) rfl rfl ?_
            rintro _ w55 ⟨rfl, hE⟩
            have hS := hS.step hE
            refine r_pick_t rfl (by conv => lhs; whnf) rfl rfl ?_
            refine r_assign (by conv => lhs; whnf) rfl rfl ?_
            refine wpl_nil ?_
            refine thn ?_
            refine ret1 (fun _ _ _ => rfl) (by conv => lhs; whnf) ?_
            exact ⟨rfl, hS.ext⟩
          · -- f
            have hc520 := hc52
            (try simp only [decide_eq_true_eq, decide_eq_false_iff_not, Bool.and_eq_true, Bool.and_eq_false_iff, Bool.not_eq_true', Bool.not_eq_false', Int.not_lt, Int.not_le] at hc52)
            obtain ⟨_, hlE, hlV⟩ : (0 ≤ b.firstF i h (b.dark + 1).toNat ∧ b.firstF i h (b.dark + 1).toNat ≤ b.dark) ∧ b.dyesE i h h = 0 ∧ b.dyesV i h h = (b.firstF i h (b.dark + 1).toNat, b.firstF i h (b.dark + 1).toNat) := by
              rcases hsame with h9 | h9
              · omega
              · exact h9
            have hl1 : (b.dyesV i h h).1 = b.firstF i h (b.dark + 1).toNat := by rw [hlV]
            have hl2 : (b.dyesV i h h).2 = b.firstF i h (b.dark + 1).toNat := by rw [hlV]
            refine k_skip ?_
            refine thn ?_
            refine k_seq ?_
            (try simp only [List.nil_append, List.cons_append, List.set_cons_zero, List.set_cons_succ] at hS)
            refine k_region ?_
            refine r_move (by conv => lhs; whnf) rfl rfl ?_
            refine r_eqlv rfl rfl (decide_eq_true (hlE)) rfl rfl ?_
            refine r_move (by conv => lhs; whnf) rfl rfl ?_
            refine r_move (by conv => lhs; whnf) rfl rfl ?_
            refine r_move (by conv => lhs; whnf) rfl rfl ?_
            refine r_eqlv rfl rfl (decide_eq_true (hl1)) rfl rfl ?_
            refine r_pick_t rfl (by conv => lhs; whnf) rfl rfl ?_
            refine r_move (by conv => lhs; whnf) rfl rfl ?_
            refine r_move (by conv => lhs; whnf) rfl rfl ?_
            refine r_move (by conv => lhs; whnf) rfl rfl ?_
            refine r_eqlv rfl rfl (decide_eq_true (hl2)) rfl rfl ?_
            refine r_pick_t rfl (by conv => lhs; whnf) rfl rfl ?_
            refine r_move (by conv => lhs; whnf) rfl rfl ?_
            refine r_call rfl (c15 _ (hP.ext hS.ext)) rfl rfl ?_
            rintro _ w59 ⟨rfl, hE⟩
            have hS := hS.step hE
            refine r_pick_t rfl (by conv => lhs; whnf) rfl rfl ?_
            refine r_assign (by conv => lhs; whnf) rfl rfl ?_
            refine wpl_nil ?_
            refine thn ?_
            refine ret1 (fun _ _ _ => rfl) (by conv => lhs; whnf) ?_
            exact ⟨rfl, hS.ext⟩
end Go.Proofs.YtofpabocpcfbfaaDoor

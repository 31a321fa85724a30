/- Walks: T26. -/
import Derived.Test.YtofpabocpcfbfaaDoorMF
import Derived.Test.YtofpabocpcfbfaaDoorCT23
import Derived.Test.YtofpabocpcfbfaaDoorMD2
set_option linter.unusedSimpArgs false
set_option linter.unusedVariables false
namespace Go.Proofs.YtofpabocpcfbfaaDoor
open Go Go.Proofs K

set_option maxHeartbeats 1000000 in
set_option maxRecDepth 100000 in
theorem c6 (w : World) (b : HBook) (A1 A2 : Option Addr) (n1 c1 n2 c2 : Nat) (h1 : RdRow Hank.enc 4 w A1 n1 b.hanks) (h2 : RdRow Horse.enc 3 w A2 n2 b.horses) (hP : Parts w) (hcap : n1 ≤ c1) (n : Int) : Cv Tryd.prog 6 #[.agg #[.slice A1 n1 c1, .slice A2 n2 c2, .int .i64 b.dark, .int .i64 b.near, .int .i64 b.mat], .int .i64 n] w (fun v w' => v = .bool true ∧ Ext no w w') := by
  refine cv_intro Tryd.func6 rfl rfl Tryd.ntmps6 rfl (by kernel_rfl) ?_
  have hS := St.nil w
  have hl1 := h1.1
  have hl2 := h2.1
  have hb1 := h1.2.1
  have hb2 := h2.2.1
  refine k_seq ?_
  refine k_region ?_
  refine r_boxa hS rfl rfl rfl ?_
  intro b2 w1 hS hE hB2
  refine r_assign (by conv => lhs; whnf) rfl rfl ?_
  refine wpl_nil ?_
  refine thn ?_
  refine k_seq ?_
  refine k_seq ?_
  refine k_region ?_
  refine r_load rfl (ld_ba hS (i := 0) rfl rfl rfl ag_25) rfl rfl ?_
  refine r_call rfl (c14 _ b A1 A2 n1 c1 n2 c2 (h1.ext hS.ext) (h2.ext hS.ext)) rfl rfl ?_
  rintro _ w2 ⟨rfl, hE⟩
  have hS := hS.step hE
  refine r_not rfl rfl rfl ?_
  refine r_moveb rfl rfl rfl (fun hb3 => ?_) (fun hb3 => ?_)
  · -- True
    have hb30 := hb3
    (try simp only [decide_eq_true_eq, decide_eq_false_iff_not, Bool.and_eq_true, Bool.and_eq_false_iff, Bool.not_eq_true', Bool.not_eq_false', Int.not_lt, Int.not_le] at hb3)
    refine r_skip rfl rfl ?_
    refine r_skip rfl rfl ?_
    refine r_skip rfl rfl ?_
    refine r_skip rfl rfl ?_
    refine r_pick_t rfl (by conv => lhs; whnf) rfl rfl ?_
    refine wpl_nil ?_
    refine thn ?_
    refine k_cond_t rfl ?_
    refine k_seq ?_
    refine k_region ?_
    refine r_call rfl (c15 _ (hP.ext hS.ext)) rfl rfl ?_
    rintro _ w4 ⟨rfl, hE⟩
    have hS := hS.step hE
    refine r_assign (by conv => lhs; whnf) rfl rfl ?_
    refine wpl_nil ?_
    refine thn ?_
    refine ret1 (fun _ _ _ => rfl) (by conv => lhs; whnf) ?_
    exact ⟨rfl, hS.ext⟩
  · -- False
    have hb30 := hb3
    (try simp only [decide_eq_true_eq, decide_eq_false_iff_not, Bool.and_eq_true, Bool.and_eq_false_iff, Bool.not_eq_true', Bool.not_eq_false', Int.not_lt, Int.not_le] at hb3)
    have hv : b.valid = true := by simpa using hb3
    refine r_field rfl fl_25_0 rfl rfl ?_
    refine r_load rfl (ld_bs hS (i := 0) rfl rfl sc_22) rfl rfl ?_
    refine r_len rfl sl_22 rfl rfl ?_
    refine r_eql rfl rfl rfl rfl ?_
    refine r_pick_f rfl (by conv => lhs; whnf) rfl rfl ?_
    refine wpl_nil ?_
    refine thn ?_
    refine k_cond rfl (fun hc5 => ?_) (fun hc5 => ?_)
    · -- t
      have hc50 := hc5
      (try simp only [decide_eq_true_eq, decide_eq_false_iff_not, Bool.and_eq_true, Bool.and_eq_false_iff, Bool.not_eq_true', Bool.not_eq_false', Int.not_lt, Int.not_le] at hc5)
      refine k_seq ?_
      refine k_region ?_
      refine r_call rfl (c15 _ (hP.ext hS.ext)) rfl rfl ?_
      rintro _ w6 ⟨rfl, hE⟩
      have hS := hS.step hE
      refine r_assign (by conv => lhs; whnf) rfl rfl ?_
      refine wpl_nil ?_
      refine thn ?_
      refine ret1 (fun _ _ _ => rfl) (by conv => lhs; whnf) ?_
      exact ⟨rfl, hS.ext⟩
    · -- f
      have hc50 := hc5
      (try simp only [decide_eq_true_eq, decide_eq_false_iff_not, Bool.and_eq_true, Bool.and_eq_false_iff, Bool.not_eq_true', Bool.not_eq_false', Int.not_lt, Int.not_le] at hc5)
      have hn4 : n1 ≠ 4 := by omega
      refine k_skip ?_
      refine thn ?_
      refine k_seq ?_
      refine k_region ?_
      have hg := (GoodB.of_valid hv).1
      have hg1 := hg.l1
      have hg2 := hg.l2
      have hck : b.chk = 0 := by unfold HBook.chk; rw [hv]; rfl
      have hn3 : b.hanks.length ≤ 3 := by have := (GoodB.of_valid hv).2; omega
      obtain ⟨s, hsd⟩ : ∃ s, s = roundI n 21 := ⟨_, rfl⟩
      have hs : 0 ≤ s ∧ s ≤ 20 := by have := roundI_bd (n := n) (m := 21) (by omega); omega
      obtain ⟨hbs, hbn⟩ := HBook.buy_law hv hs
      obtain ⟨v, hvd⟩ : ∃ v, b.buyV s = v := ⟨_, rfl⟩
      rw [hvd] at hbs hbn
      cases hsv : b.served with
      | true =>
        obtain ⟨hE0, hV0⟩ := hbs hsv
        subst hV0
        have hbe : b.bestE = 0 := by rw [HBook.best_err hv, hsv]; rfl
        refine r_move (by conv => lhs; whnf) rfl rfl ?_
        refine r_call rfl (c17 _ n _ (by omega)) rfl rfl ?_
        rintro _ w7 ⟨rfl, hE⟩
        have hS := hS.step hE
        rw [← hsd]
        refine r_assign (by conv => lhs; whnf) rfl rfl ?_
        refine wpl_nil ?_
        refine thn ?_
        refine k_seq ?_
        refine k_region ?_
        refine r_load rfl (ld_ba hS (i := 0) rfl rfl rfl ag_25) rfl rfl ?_
        refine r_move (by conv => lhs; whnf) rfl rfl ?_
        refine r_call rfl (c33 _ b A1 A2 n1 c1 n2 c2 (h1.ext hS.ext) (h2.ext hS.ext) (hP.ext hS.ext) hcap s) rfl rfl ?_
        rintro _ w8 ⟨hv8, hE⟩
        simp only [hE0, hvd] at hv8
        subst hv8
        have hS := hS.step hE
        refine r_move (by conv => lhs; whnf) rfl rfl ?_
        refine r_extract rfl rfl rfl rfl ?_
        refine r_extract rfl rfl rfl rfl ?_
        refine r_assign (by conv => lhs; whnf) rfl rfl ?_
        refine r_assign (by conv => lhs; whnf) rfl rfl ?_
        refine wpl_nil ?_
        refine thn ?_
        refine k_seq ?_
        refine k_region ?_
        refine r_load rfl (ld_ba hS (i := 0) rfl rfl rfl ag_25) rfl rfl ?_
        refine r_call rfl (c26 _ b A1 A2 n1 c1 n2 c2 (h1.ext hS.ext) (h2.ext hS.ext) (hP.ext hS.ext)) rfl rfl ?_
        rintro _ w9 ⟨aq, cq, hv9, hE, _, _⟩
        simp only [hbe] at hv9
        subst hv9
        have hS := hS.step hE
        refine r_move (by conv => lhs; whnf) rfl rfl ?_
        refine r_extract rfl rfl rfl rfl ?_
        refine r_extract rfl rfl rfl rfl ?_
        refine r_assign (by conv => lhs; whnf) rfl rfl ?_
        refine r_assign (by conv => lhs; whnf) rfl rfl ?_
        refine wpl_nil ?_
        refine thn ?_
        refine k_seq ?_
        refine k_seq ?_
        refine k_region ?_
        refine r_move (by conv => lhs; whnf) rfl rfl ?_
        refine r_neq rfl rfl rfl rfl ?_
        refine r_move (by conv => lhs; whnf) rfl rfl ?_
        refine r_skip rfl rfl ?_
        refine r_skip rfl rfl ?_
        refine r_skip rfl rfl ?_
        refine r_skip rfl rfl ?_
        refine r_skip rfl rfl ?_
        refine r_skip rfl rfl ?_
        refine r_pick_f rfl (by conv => lhs; whnf) rfl rfl ?_
        refine r_move (by conv => lhs; whnf) rfl rfl ?_
        refine r_move (by conv => lhs; whnf) rfl rfl ?_
        refine r_call rfl (c34 _ _ _ _) rfl rfl ?_
        rintro v9 w10 ⟨hv9, hE⟩
        obtain rfl : v9 = .bool true := hv9.trans (congrArg Value.bool (by first | rfl | (simp only [Bool.and_eq_true, decide_eq_true_eq]; omega)))
        have hS := hS.step hE
        refine r_not rfl rfl rfl ?_
        refine r_pick_f rfl (by conv => lhs; whnf) rfl rfl ?_
        refine r_move (by conv => lhs; whnf) rfl rfl ?_
        refine r_move (by conv => lhs; whnf) rfl rfl ?_
        refine r_neq rfl rfl rfl rfl ?_
        refine r_move (by conv => lhs; whnf) rfl rfl ?_
        refine r_skip rfl rfl ?_
        refine r_skip rfl rfl ?_
        refine r_pick_f rfl (by conv => lhs; whnf) rfl rfl ?_
        refine r_pick_f rfl (by conv => lhs; whnf) rfl rfl ?_
        refine r_move (by conv => lhs; whnf) rfl rfl ?_
        refine r_move (by conv => lhs; whnf) rfl rfl ?_
        refine r_eql rfl rfl rfl rfl ?_
        refine r_move (by conv => lhs; whnf) rfl rfl ?_
        refine r_eql rfl rfl rfl rfl ?_
        refine r_move (by conv => lhs; whnf) rfl rfl ?_
        refine r_move (by conv => lhs; whnf) rfl rfl ?_
        refine r_eqlv rfl rfl (decide_eq_true rfl) rfl rfl ?_
        refine r_pick_t rfl (by conv => lhs; whnf) rfl rfl ?_
        refine r_neqb u_4 rfl rfl rfl rfl ?_
        refine r_pick_f rfl (by conv => lhs; whnf) rfl rfl ?_
        refine wpl_nil ?_
        refine thn ?_
        refine k_cond_f rfl ?_
        refine k_skip ?_
        refine thn ?_
        refine k_seq ?_
        refine k_seq ?_
        refine k_region ?_
        refine r_move (by conv => lhs; whnf) rfl rfl ?_
        refine r_neq rfl rfl rfl rfl ?_
        refine wpl_nil ?_
        refine thn ?_
        refine k_cond_f rfl ?_
        refine k_skip ?_
        refine thn ?_
        refine k_seq ?_
        refine k_seq ?_
        refine k_region ?_
        refine r_move (by conv => lhs; whnf) rfl rfl ?_
        refine r_eqlv rfl rfl (decide_eq_true rfl) rfl rfl ?_
        refine wpl_nil ?_
        refine thn ?_
        refine k_cond_t rfl ?_
        refine k_seq ?_
        refine k_region ?_
        refine r_call rfl (c15 _ (hP.ext hS.ext)) rfl rfl ?_
        rintro _ w11 ⟨rfl, hE⟩
        have hS := hS.step hE
        refine r_assign (by conv => lhs; whnf) rfl rfl ?_
        refine wpl_nil ?_
        refine thn ?_
        refine ret1 (fun _ _ _ => rfl) (by conv => lhs; whnf) ?_
        exact ⟨rfl, hS.ext⟩
      | false =>
        have hbe : b.bestE = 4 := by rw [HBook.best_err hv, hsv]; rfl
        rcases hbn hsv with ⟨hE0, hV0, hz⟩ | ⟨hE0, hV0, hz, hlt⟩
        · -- none
          subst hV0
          have hbz : (b.add 60 s).bestE = 4 := by rw [HBook.best_err (HBook.add_valid hv hn3 (by omega) hs), hz]; rfl
          refine r_move (by conv => lhs; whnf) rfl rfl ?_
          refine r_call rfl (c17 _ n _ (by omega)) rfl rfl ?_
          rintro _ w12 ⟨rfl, hE⟩
          have hS := hS.step hE
          rw [← hsd]
          refine r_assign (by conv => lhs; whnf) rfl rfl ?_
          refine wpl_nil ?_
          refine thn ?_
          refine k_seq ?_
          refine k_region ?_
          refine r_load rfl (ld_ba hS (i := 0) rfl rfl rfl ag_25) rfl rfl ?_
          refine r_move (by conv => lhs; whnf) rfl rfl ?_
          refine r_call rfl (c33 _ b A1 A2 n1 c1 n2 c2 (h1.ext hS.ext) (h2.ext hS.ext) (hP.ext hS.ext) hcap s) rfl rfl ?_
          rintro _ w13 ⟨hv13, hE⟩
          simp only [hE0, hvd] at hv13
          subst hv13
          have hS := hS.step hE
          refine r_move (by conv => lhs; whnf) rfl rfl ?_
          refine r_extract rfl rfl rfl rfl ?_
          refine r_extract rfl rfl rfl rfl ?_
          refine r_assign (by conv => lhs; whnf) rfl rfl ?_
          refine r_assign (by conv => lhs; whnf) rfl rfl ?_
          refine wpl_nil ?_
          refine thn ?_
          refine k_seq ?_
          refine k_region ?_
          refine r_load rfl (ld_ba hS (i := 0) rfl rfl rfl ag_25) rfl rfl ?_
          refine r_call rfl (c26 _ b A1 A2 n1 c1 n2 c2 (h1.ext hS.ext) (h2.ext hS.ext) (hP.ext hS.ext)) rfl rfl ?_
          rintro _ w14 ⟨aq, cq, hv14, hE, _, _⟩
          simp only [hbe] at hv14
          subst hv14
          have hS := hS.step hE
          refine r_move (by conv => lhs; whnf) rfl rfl ?_
          refine r_extract rfl rfl rfl rfl ?_
          refine r_extract rfl rfl rfl rfl ?_
          refine r_assign (by conv => lhs; whnf) rfl rfl ?_
          refine r_assign (by conv => lhs; whnf) rfl rfl ?_
          refine wpl_nil ?_
          refine thn ?_
          refine k_seq ?_
          refine k_seq ?_
          refine k_region ?_
          refine r_move (by conv => lhs; whnf) rfl rfl ?_
          refine r_neq rfl rfl rfl rfl ?_
          refine r_move (by conv => lhs; whnf) rfl rfl ?_
          refine r_move (by conv => lhs; whnf) rfl rfl ?_
          refine r_neq rfl rfl rfl rfl ?_
          refine r_move (by conv => lhs; whnf) rfl rfl ?_
          refine r_move (by conv => lhs; whnf) rfl rfl ?_
          refine r_neq rfl rfl rfl rfl ?_
          refine r_pick_f rfl (by conv => lhs; whnf) rfl rfl ?_
          refine r_pick_t rfl (by conv => lhs; whnf) rfl rfl ?_
          refine r_move (by conv => lhs; whnf) rfl rfl ?_
          refine r_move (by conv => lhs; whnf) rfl rfl ?_
          refine r_call rfl (c34 _ _ _ _) rfl rfl ?_
          rintro v9 w15 ⟨hv9, hE⟩
          obtain rfl : v9 = .bool true := hv9.trans (congrArg Value.bool (by first | rfl | (simp only [Bool.and_eq_true, decide_eq_true_eq]; omega)))
          have hS := hS.step hE
          refine r_not rfl rfl rfl ?_
          refine r_pick_f rfl (by conv => lhs; whnf) rfl rfl ?_
          refine r_move (by conv => lhs; whnf) rfl rfl ?_
          refine r_move (by conv => lhs; whnf) rfl rfl ?_
          refine r_neq rfl rfl rfl rfl ?_
          refine r_move (by conv => lhs; whnf) rfl rfl ?_
          refine r_move (by conv => lhs; whnf) rfl rfl ?_
          refine r_neq rfl rfl rfl rfl ?_
          refine r_pick_t rfl (by conv => lhs; whnf) rfl rfl ?_
          refine r_pick_f rfl (by conv => lhs; whnf) rfl rfl ?_
          refine r_move (by conv => lhs; whnf) rfl rfl ?_
          refine r_move (by conv => lhs; whnf) rfl rfl ?_
          refine r_eql rfl rfl rfl rfl ?_
          refine r_move (by conv => lhs; whnf) rfl rfl ?_
          refine r_eql rfl rfl rfl rfl ?_
          refine r_move (by conv => lhs; whnf) rfl rfl ?_
          refine r_skip rfl rfl ?_
          refine r_skip rfl rfl ?_
          refine r_pick_f rfl (by conv => lhs; whnf) rfl rfl ?_
          refine r_neqb u_4 rfl rfl rfl rfl ?_
          refine r_pick_f rfl (by conv => lhs; whnf) rfl rfl ?_
          refine wpl_nil ?_
          refine thn ?_
          refine k_cond_f rfl ?_
          refine k_skip ?_
          refine thn ?_
          refine k_seq ?_
          refine k_seq ?_
          refine k_region ?_
          refine r_move (by conv => lhs; whnf) rfl rfl ?_
          refine r_neq rfl rfl rfl rfl ?_
          refine wpl_nil ?_
          refine thn ?_
          refine k_cond_t rfl ?_
          refine k_seq ?_
          refine k_region ?_
          refine r_load rfl (ld_ba hS (i := 0) rfl rfl rfl ag_25) rfl rfl ?_
          refine r_move (by conv => lhs; whnf) rfl rfl ?_
          refine r_call rfl (c35 _ b A1 A2 n1 c1 n2 c2 (h1.ext hS.ext) (h2.ext hS.ext) 60 s (by omega)) rfl rfl ?_
          rintro _ w16 ⟨aN, cN, rfl, hE, hrow, hcN, hnw⟩
          have hS := hS.add hE (x := row 42 4 aN (n1 + 1) cN ((b.hanks ++ [addHank 60 s]).flatMap Hank.enc)) hrow hnw
          refine r_call rfl (c26 _ (b.add 60 s) aN A2 (n1 + 1) cN n2 c2 (row_rdrow henc_len (hS.get (i := 1) rfl) (by simp [hl1]) (by simp; omega)) (h2.ext hS.ext) (hP.ext hS.ext)) rfl rfl ?_
          rintro _ w17 ⟨a7, c7, hv17, hE, _, _⟩
          simp only [hbz] at hv17
          subst hv17
          have hS := hS.step hE
          refine r_move (by conv => lhs; whnf) rfl rfl ?_
          refine r_extract rfl rfl rfl rfl ?_
          refine r_extract rfl rfl rfl rfl ?_
          refine r_assign (by conv => lhs; whnf) rfl rfl ?_
          refine r_assign (by conv => lhs; whnf) rfl rfl ?_
          refine wpl_nil ?_
          refine thn ?_
          refine k_seq ?_
          (try simp only [List.nil_append, List.cons_append, List.set_cons_zero, List.set_cons_succ] at hS)
          refine k_region ?_
          refine r_move (by conv => lhs; whnf) rfl rfl ?_
          refine r_eql rfl rfl rfl rfl ?_
          refine r_move (by conv => lhs; whnf) rfl rfl ?_
          refine r_call rfl (c15 _ (hP.ext hS.ext)) rfl rfl ?_
          rintro _ w18 ⟨rfl, hE⟩
          have hS := hS.step hE
          refine r_pick_t rfl (by conv => lhs; whnf) rfl rfl ?_
          refine r_assign (by conv => lhs; whnf) rfl rfl ?_
          refine wpl_nil ?_
          refine thn ?_
          refine ret1 (fun _ _ _ => rfl) (by conv => lhs; whnf) ?_
          exact ⟨rfl, hS.ext⟩
        · -- so much
          have hbz : (b.add v s).bestE = 0 := by rw [HBook.best_err (HBook.add_valid hv hn3 hV0 hs), hz]; rfl
          refine r_move (by conv => lhs; whnf) rfl rfl ?_
          refine r_call rfl (c17 _ n _ (by omega)) rfl rfl ?_
          rintro _ w19 ⟨rfl, hE⟩
          have hS := hS.step hE
          rw [← hsd]
          refine r_assign (by conv => lhs; whnf) rfl rfl ?_
          refine wpl_nil ?_
          refine thn ?_
          refine k_seq ?_
          refine k_region ?_
          refine r_load rfl (ld_ba hS (i := 0) rfl rfl rfl ag_25) rfl rfl ?_
          refine r_move (by conv => lhs; whnf) rfl rfl ?_
          refine r_call rfl (c33 _ b A1 A2 n1 c1 n2 c2 (h1.ext hS.ext) (h2.ext hS.ext) (hP.ext hS.ext) hcap s) rfl rfl ?_
          rintro _ w20 ⟨hv20, hE⟩
          simp only [hE0, hvd] at hv20
          subst hv20
          have hS := hS.step hE
          refine r_move (by conv => lhs; whnf) rfl rfl ?_
          refine r_extract rfl rfl rfl rfl ?_
          refine r_extract rfl rfl rfl rfl ?_
          refine r_assign (by conv => lhs; whnf) rfl rfl ?_
          refine r_assign (by conv => lhs; whnf) rfl rfl ?_
          refine wpl_nil ?_
          refine thn ?_
          refine k_seq ?_
          refine k_region ?_
          refine r_load rfl (ld_ba hS (i := 0) rfl rfl rfl ag_25) rfl rfl ?_
          refine r_call rfl (c26 _ b A1 A2 n1 c1 n2 c2 (h1.ext hS.ext) (h2.ext hS.ext) (hP.ext hS.ext)) rfl rfl ?_
          rintro _ w21 ⟨aq, cq, hv21, hE, _, _⟩
          simp only [hbe] at hv21
          subst hv21
          have hS := hS.step hE
          refine r_move (by conv => lhs; whnf) rfl rfl ?_
          refine r_extract rfl rfl rfl rfl ?_
          refine r_extract rfl rfl rfl rfl ?_
          refine r_assign (by conv => lhs; whnf) rfl rfl ?_
          refine r_assign (by conv => lhs; whnf) rfl rfl ?_
          refine wpl_nil ?_
          refine thn ?_
          refine k_seq ?_
          refine k_seq ?_
          refine k_region ?_
          refine r_move (by conv => lhs; whnf) rfl rfl ?_
          refine r_neq rfl rfl rfl rfl ?_
          refine r_move (by conv => lhs; whnf) rfl rfl ?_
          refine r_skip rfl rfl ?_
          refine r_skip rfl rfl ?_
          refine r_skip rfl rfl ?_
          refine r_skip rfl rfl ?_
          refine r_skip rfl rfl ?_
          refine r_skip rfl rfl ?_
          refine r_pick_f rfl (by conv => lhs; whnf) rfl rfl ?_
          refine r_move (by conv => lhs; whnf) rfl rfl ?_
          refine r_move (by conv => lhs; whnf) rfl rfl ?_
          refine r_call rfl (c34 _ _ _ _) rfl rfl ?_
          rintro v9 w22 ⟨hv9, hE⟩
          obtain rfl : v9 = .bool true := hv9.trans (congrArg Value.bool (by first | rfl | (simp only [Bool.and_eq_true, decide_eq_true_eq]; omega)))
          have hS := hS.step hE
          refine r_not rfl rfl rfl ?_
          refine r_pick_f rfl (by conv => lhs; whnf) rfl rfl ?_
          refine r_move (by conv => lhs; whnf) rfl rfl ?_
          refine r_move (by conv => lhs; whnf) rfl rfl ?_
          refine r_neq rfl rfl rfl rfl ?_
          refine r_move (by conv => lhs; whnf) rfl rfl ?_
          refine r_move (by conv => lhs; whnf) rfl rfl ?_
          refine r_neq rfl rfl rfl rfl ?_
          refine r_pick_t rfl (by conv => lhs; whnf) rfl rfl ?_
          refine r_pick_f rfl (by conv => lhs; whnf) rfl rfl ?_
          refine r_move (by conv => lhs; whnf) rfl rfl ?_
          refine r_move (by conv => lhs; whnf) rfl rfl ?_
          refine r_eql rfl rfl rfl rfl ?_
          refine r_move (by conv => lhs; whnf) rfl rfl ?_
          refine r_eql rfl rfl rfl rfl ?_
          refine r_move (by conv => lhs; whnf) rfl rfl ?_
          refine r_move (by conv => lhs; whnf) rfl rfl ?_
          refine r_eqlv rfl rfl (decide_eq_false (by omega)) rfl rfl ?_
          refine r_pick_t rfl (by conv => lhs; whnf) rfl rfl ?_
          refine r_neqb u_4 rfl rfl rfl rfl ?_
          refine r_pick_f rfl (by conv => lhs; whnf) rfl rfl ?_
          refine wpl_nil ?_
          refine thn ?_
          refine k_cond_f rfl ?_
          refine k_skip ?_
          refine thn ?_
          refine k_seq ?_
          refine k_seq ?_
          refine k_region ?_
          refine r_move (by conv => lhs; whnf) rfl rfl ?_
          refine r_neq rfl rfl rfl rfl ?_
          refine wpl_nil ?_
          refine thn ?_
          refine k_cond_f rfl ?_
          refine k_skip ?_
          refine thn ?_
          refine k_seq ?_
          refine k_seq ?_
          refine k_region ?_
          refine r_move (by conv => lhs; whnf) rfl rfl ?_
          refine r_eqlv rfl rfl (decide_eq_false (by omega)) rfl rfl ?_
          refine wpl_nil ?_
          refine thn ?_
          refine k_cond_f rfl ?_
          refine k_skip ?_
          refine thn ?_
          refine k_seq ?_
          refine k_seq ?_
          refine k_region ?_
          refine r_load rfl (ld_ba hS (i := 0) rfl rfl rfl ag_25) rfl rfl ?_
          refine r_move (by conv => lhs; whnf) rfl rfl ?_
          refine r_move (by conv => lhs; whnf) rfl rfl ?_
          refine r_call rfl (c35 _ b A1 A2 n1 c1 n2 c2 (h1.ext hS.ext) (h2.ext hS.ext) v s (by omega)) rfl rfl ?_
          rintro _ w23 ⟨aN, cN, rfl, hE, hrow, hcN, hnw⟩
          have hS := hS.add hE (x := row 42 4 aN (n1 + 1) cN ((b.hanks ++ [addHank v s]).flatMap Hank.enc)) hrow hnw
          refine r_call rfl (c26 _ (b.add v s) aN A2 (n1 + 1) cN n2 c2 (row_rdrow henc_len (hS.get (i := 1) rfl) (by simp [hl1]) (by simp; omega)) (h2.ext hS.ext) (hP.ext hS.ext)) rfl rfl ?_
          rintro _ w24 ⟨a7, c7, hv24, hE, _, _⟩
          simp only [hbz] at hv24
          subst hv24
          have hS := hS.step hE
          refine r_move (by conv => lhs; whnf) rfl rfl ?_
          refine r_extract rfl rfl rfl rfl ?_
          refine r_extract rfl rfl rfl rfl ?_
          refine r_assign (by conv => lhs; whnf) rfl rfl ?_
          refine r_assign (by conv => lhs; whnf) rfl rfl ?_
          refine wpl_nil ?_
          refine thn ?_
          refine k_seq ?_
          (try simp only [List.nil_append, List.cons_append, List.set_cons_zero, List.set_cons_succ] at hS)
          refine k_region ?_
          refine r_move (by conv => lhs; whnf) rfl rfl ?_
          refine r_neq rfl rfl rfl rfl ?_
          refine wpl_nil ?_
          refine thn ?_
          refine k_cond_f rfl ?_
          refine k_skip ?_
          refine thn ?_
          refine k_seq ?_
          refine k_seq ?_
          (try simp only [List.nil_append, List.cons_append, List.set_cons_zero, List.set_cons_succ] at hS)
          refine k_region ?_
          refine r_move (by conv => lhs; whnf) rfl rfl ?_
          refine r_gtr rfl rfl rfl rfl ?_
          refine wpl_nil ?_
          refine thn ?_
          refine k_cond rfl (fun hc25 => ?_) (fun hc25 => ?_)
          · -- t
            have hc250 := hc25
            (try simp only [decide_eq_true_eq, decide_eq_false_iff_not, Bool.and_eq_true, Bool.and_eq_false_iff, Bool.not_eq_true', Bool.not_eq_false', Int.not_lt, Int.not_le] at hc25)
            have hz2 := hlt (v - 1) (by omega) (by omega)
            have hbz2 : (b.add (v - 1) s).bestE = 4 := by rw [HBook.best_err (HBook.add_valid hv hn3 (by omega) hs), hz2]; rfl
            refine k_seq ?_
            (try simp only [List.nil_append, List.cons_append, List.set_cons_zero, List.set_cons_succ] at hS)
            refine k_region ?_
            refine r_load rfl (ld_ba hS (i := 0) rfl rfl rfl ag_25) rfl rfl ?_
            refine r_move (by conv => lhs; whnf) rfl rfl ?_
            refine r_sub rfl rfl rfl rfl (by omega) ?_
            refine r_move (by conv => lhs; whnf) rfl rfl ?_
            refine r_call rfl (c35 _ b A1 A2 n1 c1 n2 c2 (h1.ext hS.ext) (h2.ext hS.ext) (v - 1) s (by omega)) rfl rfl ?_
            rintro _ w26 ⟨aM, cM, rfl, hE, hrow, hcN, hnw⟩
            have hS := hS.add hE (x := row 42 4 aM (n1 + 1) cM ((b.hanks ++ [addHank (v - 1) s]).flatMap Hank.enc)) hrow hnw
            refine r_call rfl (c26 _ (b.add (v - 1) s) aM A2 (n1 + 1) cM n2 c2 (row_rdrow henc_len (hS.get (i := 2) rfl) (by simp [hl1]) (by simp; omega)) (h2.ext hS.ext) (hP.ext hS.ext)) rfl rfl ?_
            rintro _ w27 ⟨a8, c8, hv27, hE, _, _⟩
            simp only [hbz2] at hv27
            subst hv27
            have hS := hS.step hE
            refine r_move (by conv => lhs; whnf) rfl rfl ?_
            refine r_extract rfl rfl rfl rfl ?_
            refine r_extract rfl rfl rfl rfl ?_
            refine r_assign (by conv => lhs; whnf) rfl rfl ?_
            refine r_assign (by conv => lhs; whnf) rfl rfl ?_
            refine wpl_nil ?_
            refine thn ?_
            refine k_seq ?_
            (try simp only [List.nil_append, List.cons_append, List.set_cons_zero, List.set_cons_succ] at hS)
            refine k_region ?_
            refine r_move (by conv => lhs; whnf) rfl rfl ?_
            refine r_neq rfl rfl rfl rfl ?_
            refine wpl_nil ?_
            refine thn ?_
            refine k_cond_f rfl ?_
            refine k_skip ?_
            refine thn ?_
            refine k_seq ?_
            (try simp only [List.nil_append, List.cons_append, List.set_cons_zero, List.set_cons_succ] at hS)
            refine k_region ?_
            refine r_call rfl (c15 _ (hP.ext hS.ext)) rfl rfl ?_
            rintro _ w28 ⟨rfl, hE⟩
            have hS := hS.step hE
            refine r_assign (by conv => lhs; whnf) rfl rfl ?_
            refine wpl_nil ?_
            refine thn ?_
            refine ret1 (fun _ _ _ => rfl) (by conv => lhs; whnf) ?_
            exact ⟨rfl, hS.ext⟩
          · -- f
            have hc250 := hc25
            (try simp only [decide_eq_true_eq, decide_eq_false_iff_not, Bool.and_eq_true, Bool.and_eq_false_iff, Bool.not_eq_true', Bool.not_eq_false', Int.not_lt, Int.not_le] at hc25)
            refine k_skip ?_
            refine thn ?_
            refine k_seq ?_
            (try simp only [List.nil_append, List.cons_append, List.set_cons_zero, List.set_cons_succ] at hS)
            refine k_region ?_
            refine r_call rfl (c15 _ (hP.ext hS.ext)) rfl rfl ?_
            rintro _ w29 ⟨rfl, hE⟩
            have hS := hS.step hE
            refine r_assign (by conv => lhs; whnf) rfl rfl ?_
            refine wpl_nil ?_
            refine thn ?_
            refine ret1 (fun _ _ _ => rfl) (by conv => lhs; whnf) ?_
            exact ⟨rfl, hS.ext⟩
end Go.Proofs.YtofpabocpcfbfaaDoor

/- Walks: T24. -/
import Derived.Test.YtofpabocpcfbfaaDoorMF
import Derived.Test.YtofpabocpcfbfaaDoorCT23
set_option linter.unusedSimpArgs false
set_option linter.unusedVariables false
namespace Go.Proofs.YtofpabocpcfbfaaDoor
open Go Go.Proofs K

set_option maxHeartbeats 1000000 in
set_option maxRecDepth 100000 in
theorem c4 (w : World) (b : HBook) (A1 A2 : Option Addr) (n1 c1 n2 c2 : Nat) (h1 : RdRow Hank.enc 4 w A1 n1 b.hanks) (h2 : RdRow Horse.enc 3 w A2 n2 b.horses) (hP : Parts w) (bits : List Int) (Ab : Option Addr) (nb cb : Nat) (hbits : RdInts w Ab nb bits) : Cv Tryd.prog 4 #[.agg #[.slice A1 n1 c1, .slice A2 n2 c2, .int .i64 b.dark, .int .i64 b.near, .int .i64 b.mat], .slice Ab nb cb] w (fun v w' => v = .bool true ∧ Ext no w w') := by
  refine cv_intro Tryd.func4 rfl rfl Tryd.ntmps4 rfl (by kernel_rfl) ?_
  have hS := St.nil w
  have hl1 := h1.1
  have hl2 := h2.1
  have hb1 := h1.2.1
  have hb2 := h2.2.1
  refine k_seq ?_
  refine k_region ?_
  refine r_boxa hS rfl rfl rfl ?_
  intro b2 w1 hS hE hB2
  refine r_assign (by conv => lhs; whnf) rfl rfl ?_
  refine wpl_nil ?_
  refine thn ?_
  refine k_seq ?_
  refine k_seq ?_
  refine k_region ?_
  refine r_load rfl (ld_ba hS (i := 0) rfl rfl rfl ag_25) rfl rfl ?_
  refine r_call rfl (c14 _ b A1 A2 n1 c1 n2 c2 (h1.ext hS.ext) (h2.ext hS.ext)) rfl rfl ?_
  rintro _ w2 ⟨rfl, hE⟩
  have hS := hS.step hE
  refine r_not rfl rfl rfl ?_
  refine wpl_nil ?_
  refine thn ?_
  refine k_cond rfl (fun hc3 => ?_) (fun hc3 => ?_)
  · -- t
    skip
    refine k_seq ?_
    refine k_region ?_
    refine r_call rfl (c15 _ (hP.ext hS.ext)) rfl rfl ?_
    rintro _ w4 ⟨rfl, hE⟩
    have hS := hS.step hE
    refine r_assign (by conv => lhs; whnf) rfl rfl ?_
    refine wpl_nil ?_
    refine thn ?_
    refine ret1 (fun _ _ _ => rfl) (by conv => lhs; whnf) ?_
    exact ⟨rfl, hS.ext⟩
  · -- f
    skip
    have hv : b.valid = true := by have hc31 : (!b.valid) = false := hc3; simpa using hc31
    refine k_skip ?_
    refine thn ?_
    refine k_seq ?_
    refine k_region ?_
    have hg := (GoodB.of_valid hv).1
    have hg1 := hg.l1
    have hg2 := hg.l2
    have hck : b.chk = 0 := by unfold HBook.chk; rw [hv]; rfl
    cases hs : b.served with
    | false =>
      have hbe : b.bestE = 4 := by rw [HBook.best_err hv, hs]; rfl
      have hbv : b.bestV = [] := by rw [HBook.best_val hv, hs]; rfl
      have hln : b.lacksV.length ≠ 0 := fun h0 => by
        rw [(HBook.lacks_nil hv).1 (List.length_eq_zero_iff.1 h0)] at hs
        cases hs
      refine r_load rfl (ld_ba hS (i := 0) rfl rfl rfl ag_25) rfl rfl ?_
      refine r_call rfl (c26 _ b A1 A2 n1 c1 n2 c2 (h1.ext hS.ext) (h2.ext hS.ext) (hP.ext hS.ext)) rfl rfl ?_
      rintro _ w5 ⟨aq, cq, hv5, hE, hrd, hnw⟩
      simp only [hbe, hbv, List.length_nil] at hv5 hrd hnw
      subst hv5
      have hS := hS.add hE (x := lst aq 0 []) hrd hnw
      refine r_move (by conv => lhs; whnf) rfl rfl ?_
      refine r_extract rfl rfl rfl rfl ?_
      refine r_extract rfl rfl rfl rfl ?_
      refine r_assign (by conv => lhs; whnf) rfl rfl ?_
      refine r_assign (by conv => lhs; whnf) rfl rfl ?_
      refine wpl_nil ?_
      refine thn ?_
      refine k_seq ?_
      refine k_region ?_
      refine r_load rfl (ld_ba hS (i := 0) rfl rfl rfl ag_25) rfl rfl ?_
      refine r_call rfl (c27 _ b A1 A2 n1 c1 n2 c2 (h1.ext hS.ext) (h2.ext hS.ext) (hP.ext hS.ext)) rfl rfl ?_
      rintro _ w6 ⟨ak, ck, hv6, hE, _, _⟩
      simp only [hck] at hv6
      subst hv6
      have hS := hS.step hE
      refine r_move (by conv => lhs; whnf) rfl rfl ?_
      refine r_extract rfl rfl rfl rfl ?_
      refine r_extract rfl rfl rfl rfl ?_
      refine r_assign (by conv => lhs; whnf) rfl rfl ?_
      refine r_assign (by conv => lhs; whnf) rfl rfl ?_
      refine wpl_nil ?_
      refine thn ?_
      refine k_seq ?_
      refine k_seq ?_
      refine k_region ?_
      refine r_move (by conv => lhs; whnf) rfl rfl ?_
      refine r_neq rfl rfl rfl rfl ?_
      refine r_move (by conv => lhs; whnf) rfl rfl ?_
      refine r_move (by conv => lhs; whnf) rfl rfl ?_
      refine r_eql rfl rfl rfl rfl ?_
      refine r_move (by conv => lhs; whnf) rfl rfl ?_
      refine r_len rfl sl_26 rfl rfl ?_
      refine r_eqlv rfl rfl (decide_eq_false (by omega)) rfl rfl ?_
      refine r_neqb u_4 rfl rfl rfl rfl ?_
      refine r_pick_f rfl (by conv => lhs; whnf) rfl rfl ?_
      refine r_move (by conv => lhs; whnf) rfl rfl ?_
      refine r_move (by conv => lhs; whnf) rfl rfl ?_
      refine r_neq rfl rfl rfl rfl ?_
      refine r_move (by conv => lhs; whnf) rfl rfl ?_
      refine r_move (by conv => lhs; whnf) rfl rfl ?_
      refine r_neq rfl rfl rfl rfl ?_
      refine r_move (by conv => lhs; whnf) rfl rfl ?_
      refine r_move (by conv => lhs; whnf) rfl rfl ?_
      refine r_len rfl sl_26 rfl rfl ?_
      refine r_neq rfl rfl rfl rfl ?_
      refine r_pick_f rfl (by conv => lhs; whnf) rfl rfl ?_
      refine r_pick_t rfl (by conv => lhs; whnf) rfl rfl ?_
      refine r_pick_f rfl (by conv => lhs; whnf) rfl rfl ?_
      refine wpl_nil ?_
      refine thn ?_
      refine k_cond_f rfl ?_
      refine k_skip ?_
      refine thn ?_
      refine k_seq ?_
      refine k_seq ?_
      refine k_region ?_
      refine r_field rfl fl_25_0 rfl rfl ?_
      refine r_load rfl (ld_bs hS (i := 0) rfl rfl sc_22) rfl rfl ?_
      refine r_len rfl sl_22 rfl rfl ?_
      refine r_eql rfl rfl rfl rfl ?_
      refine wpl_nil ?_
      refine thn ?_
      refine k_cond rfl (fun hc7 => ?_) (fun hc7 => ?_)
      · -- t
        have hc70 := hc7
        (try simp only [decide_eq_true_eq, decide_eq_false_iff_not, Bool.and_eq_true, Bool.and_eq_false_iff, Bool.not_eq_true', Bool.not_eq_false', Int.not_lt, Int.not_le] at hc7)
        have hlb := b.lacks_bare hv (by omega)
        refine k_seq ?_
        refine k_region ?_
        refine r_move (by conv => lhs; whnf) rfl rfl ?_
        refine r_len rfl sl_26 rfl rfl ?_
        refine r_field rfl fl_25_1 rfl rfl ?_
        refine r_load rfl (ld_bs hS (i := 0) rfl rfl sc_23) rfl rfl ?_
        refine r_len rfl sl_23 rfl rfl ?_
        refine r_eqlv rfl rfl (decide_eq_true (by omega)) rfl rfl ?_
        refine r_move (by conv => lhs; whnf) rfl rfl ?_
        refine r_call rfl (c15 _ (hP.ext hS.ext)) rfl rfl ?_
        rintro _ w9 ⟨rfl, hE⟩
        have hS := hS.step hE
        refine r_pick_t rfl (by conv => lhs; whnf) rfl rfl ?_
        refine r_assign (by conv => lhs; whnf) rfl rfl ?_
        refine wpl_nil ?_
        refine thn ?_
        refine ret1 (fun _ _ _ => rfl) (by conv => lhs; whnf) ?_
        exact ⟨rfl, hS.ext⟩
      · -- f
        have hc70 := hc7
        (try simp only [decide_eq_true_eq, decide_eq_false_iff_not, Bool.and_eq_true, Bool.and_eq_false_iff, Bool.not_eq_true', Bool.not_eq_false', Int.not_lt, Int.not_le] at hc7)
        have hn0 : n1 ≠ 0 := by omega
        refine k_skip ?_
        refine thn ?_
        refine k_seq ?_
        refine k_region ?_
        obtain ⟨plan, hpd⟩ : ∃ plan, plan = drawnTo bits n1 (2 * n2) := ⟨_, rfl⟩
        have hpl : plan.length = 2 * n2 := by rw [hpd]; exact drawnTo_len
        have hip : b.isPlan plan = true := by rw [hpd, ← hl1, ← hl2]; exact b.drawn_plan (by omega)
        have eW : b.worksE plan = 0 := by unfold HBook.worksE HBook.ask; rw [hv, hip]; rfl
        have hW : b.works plan = false := by
          cases h : b.works plan with
          | false => rfl
          | true =>
            rw [(b.served_iff hg).2 ⟨plan, (b.works_iff hip).1 h⟩] at hs
            cases hs
        have eV : b.worksV plan = false := by unfold HBook.worksV; rw [eW, hW]; rfl
        refine r_load rfl (ld_ba hS (i := 0) rfl rfl rfl ag_25) rfl rfl ?_
        refine r_move (by conv => lhs; whnf) rfl rfl ?_
        refine r_call rfl (c16 _ A1 A2 n1 c1 n2 c2 b.dark b.near b.mat bits Ab nb cb (hbits.ext hS.ext) (by omega) (by omega)) rfl rfl ?_
        rintro _ w10 ⟨ap, cp, hv9, hE, hrow, hrf⟩
        rw [← hpd, ← hpl] at hrow
        rw [← hpl] at hv9
        subst hv9
        have hS := hS.add hE (x := row 3 1 ap plan.length cp (plan.map iv)) hrow hrf
        refine r_assign (by conv => lhs; whnf) rfl rfl ?_
        refine wpl_nil ?_
        refine thn ?_
        refine k_seq ?_
        (try simp only [List.nil_append, List.cons_append, List.set_cons_zero, List.set_cons_succ] at hS)
        refine k_region ?_
        refine r_load rfl (ld_ba hS (i := 0) rfl rfl rfl ag_25) rfl rfl ?_
        refine r_move (by conv => lhs; whnf) rfl rfl ?_
        refine r_call rfl (c18 _ b A1 A2 n1 c1 n2 c2 (h1.ext hS.ext) (h2.ext hS.ext) (hP.ext hS.ext) plan ap plan.length cp (row_rd (hS.get (i := 2) rfl) (by omega))) rfl rfl ?_
        rintro _ w11 ⟨hv11, hE⟩
        simp only [eV, eW] at hv11
        subst hv11
        have hS := hS.step hE
        refine r_move (by conv => lhs; whnf) rfl rfl ?_
        refine r_extract rfl rfl rfl rfl ?_
        refine r_extract rfl rfl rfl rfl ?_
        refine r_assign (by conv => lhs; whnf) rfl rfl ?_
        refine r_assign (by conv => lhs; whnf) rfl rfl ?_
        refine wpl_nil ?_
        refine thn ?_
        refine k_seq ?_
        refine k_seq ?_
        (try simp only [List.nil_append, List.cons_append, List.set_cons_zero, List.set_cons_succ] at hS)
        refine k_region ?_
        refine r_move (by conv => lhs; whnf) rfl rfl ?_
        refine r_neq rfl rfl rfl rfl ?_
        refine r_move (by conv => lhs; whnf) rfl rfl ?_
        refine r_move (by conv => lhs; whnf) rfl rfl ?_
        refine r_move (by conv => lhs; whnf) rfl rfl ?_
        refine r_skip rfl rfl ?_
        refine r_skip rfl rfl ?_
        refine r_pick_f rfl (by conv => lhs; whnf) rfl rfl ?_
        refine r_pick_f rfl (by conv => lhs; whnf) rfl rfl ?_
        refine wpl_nil ?_
        refine thn ?_
        refine k_cond_f rfl ?_
        refine k_skip ?_
        refine thn ?_
        refine k_seq ?_
        refine k_seq ?_
        (try simp only [List.nil_append, List.cons_append, List.set_cons_zero, List.set_cons_succ] at hS)
        refine k_region ?_
        refine r_move (by conv => lhs; whnf) rfl rfl ?_
        refine r_not rfl rfl rfl ?_
        refine wpl_nil ?_
        refine thn ?_
        refine k_cond_t rfl ?_
        refine k_seq ?_
        (try simp only [List.nil_append, List.cons_append, List.set_cons_zero, List.set_cons_succ] at hS)
        refine k_region ?_
        refine r_call rfl (c15 _ (hP.ext hS.ext)) rfl rfl ?_
        rintro _ w12 ⟨rfl, hE⟩
        have hS := hS.step hE
        refine r_assign (by conv => lhs; whnf) rfl rfl ?_
        refine wpl_nil ?_
        refine thn ?_
        refine ret1 (fun _ _ _ => rfl) (by conv => lhs; whnf) ?_
        exact ⟨rfl, hS.ext⟩
    | true =>
      have hbe : b.bestE = 0 := by rw [HBook.best_err hv, hs]; rfl
      have hbv : b.bestV = b.bestP.1 := by rw [HBook.best_val hv, hs]; rfl
      have hlv : b.lacksV = [] := (HBook.lacks_nil hv).2 hs
      have hln : b.lacksV.length = 0 := by rw [hlv]; rfl
      refine r_load rfl (ld_ba hS (i := 0) rfl rfl rfl ag_25) rfl rfl ?_
      refine r_call rfl (c26 _ b A1 A2 n1 c1 n2 c2 (h1.ext hS.ext) (h2.ext hS.ext) (hP.ext hS.ext)) rfl rfl ?_
      rintro _ w13 ⟨aq, cq, hv13, hE, hrd, hnw⟩
      simp only [hbe, hbv] at hv13 hrd hnw
      subst hv13
      have hS := hS.add hE (x := lst aq b.bestP.1.length b.bestP.1) hrd hnw
      refine r_move (by conv => lhs; whnf) rfl rfl ?_
      refine r_extract rfl rfl rfl rfl ?_
      refine r_extract rfl rfl rfl rfl ?_
      refine r_assign (by conv => lhs; whnf) rfl rfl ?_
      refine r_assign (by conv => lhs; whnf) rfl rfl ?_
      refine wpl_nil ?_
      refine thn ?_
      refine k_seq ?_
      refine k_region ?_
      refine r_load rfl (ld_ba hS (i := 0) rfl rfl rfl ag_25) rfl rfl ?_
      refine r_call rfl (c27 _ b A1 A2 n1 c1 n2 c2 (h1.ext hS.ext) (h2.ext hS.ext) (hP.ext hS.ext)) rfl rfl ?_
      rintro _ w14 ⟨ak, ck, hv14, hE, _, _⟩
      simp only [hck, hln] at hv14
      subst hv14
      have hS := hS.step hE
      refine r_move (by conv => lhs; whnf) rfl rfl ?_
      refine r_extract rfl rfl rfl rfl ?_
      refine r_extract rfl rfl rfl rfl ?_
      refine r_assign (by conv => lhs; whnf) rfl rfl ?_
      refine r_assign (by conv => lhs; whnf) rfl rfl ?_
      refine wpl_nil ?_
      refine thn ?_
      refine k_seq ?_
      refine k_seq ?_
      refine k_region ?_
      refine r_move (by conv => lhs; whnf) rfl rfl ?_
      refine r_neq rfl rfl rfl rfl ?_
      refine r_move (by conv => lhs; whnf) rfl rfl ?_
      refine r_move (by conv => lhs; whnf) rfl rfl ?_
      refine r_eql rfl rfl rfl rfl ?_
      refine r_move (by conv => lhs; whnf) rfl rfl ?_
      refine r_len rfl sl_26 rfl rfl ?_
      refine r_eqlv rfl rfl (decide_eq_true rfl) rfl rfl ?_
      refine r_neqb u_4 rfl rfl rfl rfl ?_
      refine r_pick_f rfl (by conv => lhs; whnf) rfl rfl ?_
      refine r_move (by conv => lhs; whnf) rfl rfl ?_
      refine r_move (by conv => lhs; whnf) rfl rfl ?_
      refine r_neq rfl rfl rfl rfl ?_
      refine r_move (by conv => lhs; whnf) rfl rfl ?_
      refine r_skip rfl rfl ?_
      refine r_skip rfl rfl ?_
      refine r_skip rfl rfl ?_
      refine r_skip rfl rfl ?_
      refine r_skip rfl rfl ?_
      refine r_skip rfl rfl ?_
      refine r_skip rfl rfl ?_
      refine r_pick_f rfl (by conv => lhs; whnf) rfl rfl ?_
      refine r_pick_f rfl (by conv => lhs; whnf) rfl rfl ?_
      refine wpl_nil ?_
      refine thn ?_
      refine k_cond_f rfl ?_
      refine k_skip ?_
      refine thn ?_
      refine k_seq ?_
      refine k_seq ?_
      refine k_region ?_
      refine r_field rfl fl_25_0 rfl rfl ?_
      refine r_load rfl (ld_bs hS (i := 0) rfl rfl sc_22) rfl rfl ?_
      refine r_len rfl sl_22 rfl rfl ?_
      refine r_eql rfl rfl rfl rfl ?_
      refine wpl_nil ?_
      refine thn ?_
      refine k_cond rfl (fun hc15 => ?_) (fun hc15 => ?_)
      · -- t
        have hc150 := hc15
        (try simp only [decide_eq_true_eq, decide_eq_false_iff_not, Bool.and_eq_true, Bool.and_eq_false_iff, Bool.not_eq_true', Bool.not_eq_false', Int.not_lt, Int.not_le] at hc15)
        have hlb := b.lacks_bare hv (by omega)
        refine k_seq ?_
        refine k_region ?_
        refine r_move (by conv => lhs; whnf) rfl rfl ?_
        refine r_len rfl sl_26 rfl rfl ?_
        refine r_field rfl fl_25_1 rfl rfl ?_
        refine r_load rfl (ld_bs hS (i := 0) rfl rfl sc_23) rfl rfl ?_
        refine r_len rfl sl_23 rfl rfl ?_
        refine r_eqlv rfl rfl (decide_eq_true (by omega)) rfl rfl ?_
        refine r_move (by conv => lhs; whnf) rfl rfl ?_
        refine r_call rfl (c15 _ (hP.ext hS.ext)) rfl rfl ?_
        rintro _ w17 ⟨rfl, hE⟩
        have hS := hS.step hE
        refine r_pick_t rfl (by conv => lhs; whnf) rfl rfl ?_
        refine r_assign (by conv => lhs; whnf) rfl rfl ?_
        refine wpl_nil ?_
        refine thn ?_
        refine ret1 (fun _ _ _ => rfl) (by conv => lhs; whnf) ?_
        exact ⟨rfl, hS.ext⟩
      · -- f
        have hc150 := hc15
        (try simp only [decide_eq_true_eq, decide_eq_false_iff_not, Bool.and_eq_true, Bool.and_eq_false_iff, Bool.not_eq_true', Bool.not_eq_false', Int.not_lt, Int.not_le] at hc15)
        have hn0 : n1 ≠ 0 := by omega
        refine k_skip ?_
        refine thn ?_
        refine k_seq ?_
        refine k_region ?_
        obtain ⟨plan, hpd⟩ : ∃ plan, plan = drawnTo bits n1 (2 * n2) := ⟨_, rfl⟩
        have hpl : plan.length = 2 * n2 := by rw [hpd]; exact drawnTo_len
        have hip : b.isPlan plan = true := by rw [hpd, ← hl1, ← hl2]; exact b.drawn_plan (by omega)
        have eW : b.worksE plan = 0 := by unfold HBook.worksE HBook.ask; rw [hv, hip]; rfl
        cases hW : b.works plan with
        | false =>
          have eV : b.worksV plan = false := by unfold HBook.worksV; rw [eW, hW]; rfl
          refine r_load rfl (ld_ba hS (i := 0) rfl rfl rfl ag_25) rfl rfl ?_
          refine r_move (by conv => lhs; whnf) rfl rfl ?_
          refine r_call rfl (c16 _ A1 A2 n1 c1 n2 c2 b.dark b.near b.mat bits Ab nb cb (hbits.ext hS.ext) (by omega) (by omega)) rfl rfl ?_
          rintro _ w18 ⟨ap, cp, hv9, hE, hrow, hrf⟩
          rw [← hpd, ← hpl] at hrow
          rw [← hpl] at hv9
          subst hv9
          have hS := hS.add hE (x := row 3 1 ap plan.length cp (plan.map iv)) hrow hrf
          refine r_assign (by conv => lhs; whnf) rfl rfl ?_
          refine wpl_nil ?_
          refine thn ?_
          refine k_seq ?_
          (try simp only [List.nil_append, List.cons_append, List.set_cons_zero, List.set_cons_succ] at hS)
          refine k_region ?_
          refine r_load rfl (ld_ba hS (i := 0) rfl rfl rfl ag_25) rfl rfl ?_
          refine r_move (by conv => lhs; whnf) rfl rfl ?_
          refine r_call rfl (c18 _ b A1 A2 n1 c1 n2 c2 (h1.ext hS.ext) (h2.ext hS.ext) (hP.ext hS.ext) plan ap plan.length cp (row_rd (hS.get (i := 2) rfl) (by omega))) rfl rfl ?_
          rintro _ w19 ⟨hv19, hE⟩
          simp only [eV, eW] at hv19
          subst hv19
          have hS := hS.step hE
          refine r_move (by conv => lhs; whnf) rfl rfl ?_
          refine r_extract rfl rfl rfl rfl ?_
          refine r_extract rfl rfl rfl rfl ?_
          refine r_assign (by conv => lhs; whnf) rfl rfl ?_
          refine r_assign (by conv => lhs; whnf) rfl rfl ?_
          refine wpl_nil ?_
          refine thn ?_
          refine k_seq ?_
          refine k_seq ?_
          (try simp only [List.nil_append, List.cons_append, List.set_cons_zero, List.set_cons_succ] at hS)
          refine k_region ?_
          refine r_move (by conv => lhs; whnf) rfl rfl ?_
          refine r_neq rfl rfl rfl rfl ?_
          refine r_move (by conv => lhs; whnf) rfl rfl ?_
          refine r_move (by conv => lhs; whnf) rfl rfl ?_
          refine r_move (by conv => lhs; whnf) rfl rfl ?_
          refine r_skip rfl rfl ?_
          refine r_skip rfl rfl ?_
          refine r_pick_f rfl (by conv => lhs; whnf) rfl rfl ?_
          refine r_pick_f rfl (by conv => lhs; whnf) rfl rfl ?_
          refine wpl_nil ?_
          refine thn ?_
          refine k_cond_f rfl ?_
          refine k_skip ?_
          refine thn ?_
          refine k_seq ?_
          refine k_seq ?_
          (try simp only [List.nil_append, List.cons_append, List.set_cons_zero, List.set_cons_succ] at hS)
          refine k_region ?_
          refine r_move (by conv => lhs; whnf) rfl rfl ?_
          refine r_not rfl rfl rfl ?_
          refine wpl_nil ?_
          refine thn ?_
          refine k_cond_t rfl ?_
          refine k_seq ?_
          (try simp only [List.nil_append, List.cons_append, List.set_cons_zero, List.set_cons_succ] at hS)
          refine k_region ?_
          refine r_call rfl (c15 _ (hP.ext hS.ext)) rfl rfl ?_
          rintro _ w20 ⟨rfl, hE⟩
          have hS := hS.step hE
          refine r_assign (by conv => lhs; whnf) rfl rfl ?_
          refine wpl_nil ?_
          refine thn ?_
          refine ret1 (fun _ _ _ => rfl) (by conv => lhs; whnf) ?_
          exact ⟨rfl, hS.ext⟩
        | true =>
          have eV : b.worksV plan = true := by unfold HBook.worksV; rw [eW, hW]; rfl
          have hpw := (b.works_iff hip).1 hW
          obtain ⟨hbw, hbl⟩ := b.best_law hg hs
          replace hbl := hbl plan hpw
          have hob : b.offE b.bestP.1 = 0 := by unfold HBook.offE HBook.ask; rw [hv, hbw.is, (b.works_iff hbw.is).2 hbw]; rfl
          have hop : b.offE plan = 0 := by unfold HBook.offE HBook.ask; rw [hv, hip, hW]; rfl
          have hobv : b.offV b.bestP.1 = ⟨b.offOf (b.cutOf b.bestP.1) false, b.offOf (b.cutOf b.bestP.1) true⟩ := by unfold HBook.offV; rw [hob]; rfl
          have hopv : b.offV plan = ⟨b.offOf (b.cutOf plan) false, b.offOf (b.cutOf plan) true⟩ := by unfold HBook.offV; rw [hop]; rfl
          refine r_load rfl (ld_ba hS (i := 0) rfl rfl rfl ag_25) rfl rfl ?_
          refine r_move (by conv => lhs; whnf) rfl rfl ?_
          refine r_call rfl (c16 _ A1 A2 n1 c1 n2 c2 b.dark b.near b.mat bits Ab nb cb (hbits.ext hS.ext) (by omega) (by omega)) rfl rfl ?_
          rintro _ w21 ⟨ap, cp, hv9, hE, hrow, hrf⟩
          rw [← hpd, ← hpl] at hrow
          rw [← hpl] at hv9
          subst hv9
          have hS := hS.add hE (x := row 3 1 ap plan.length cp (plan.map iv)) hrow hrf
          refine r_assign (by conv => lhs; whnf) rfl rfl ?_
          refine wpl_nil ?_
          refine thn ?_
          refine k_seq ?_
          (try simp only [List.nil_append, List.cons_append, List.set_cons_zero, List.set_cons_succ] at hS)
          refine k_region ?_
          refine r_load rfl (ld_ba hS (i := 0) rfl rfl rfl ag_25) rfl rfl ?_
          refine r_move (by conv => lhs; whnf) rfl rfl ?_
          refine r_call rfl (c18 _ b A1 A2 n1 c1 n2 c2 (h1.ext hS.ext) (h2.ext hS.ext) (hP.ext hS.ext) plan ap plan.length cp (row_rd (hS.get (i := 2) rfl) (by omega))) rfl rfl ?_
          rintro _ w22 ⟨hv22, hE⟩
          simp only [eV, eW] at hv22
          subst hv22
          have hS := hS.step hE
          refine r_move (by conv => lhs; whnf) rfl rfl ?_
          refine r_extract rfl rfl rfl rfl ?_
          refine r_extract rfl rfl rfl rfl ?_
          refine r_assign (by conv => lhs; whnf) rfl rfl ?_
          refine r_assign (by conv => lhs; whnf) rfl rfl ?_
          refine wpl_nil ?_
          refine thn ?_
          refine k_seq ?_
          refine k_seq ?_
          (try simp only [List.nil_append, List.cons_append, List.set_cons_zero, List.set_cons_succ] at hS)
          refine k_region ?_
          refine r_move (by conv => lhs; whnf) rfl rfl ?_
          refine r_neq rfl rfl rfl rfl ?_
          refine r_move (by conv => lhs; whnf) rfl rfl ?_
          refine r_move (by conv => lhs; whnf) rfl rfl ?_
          refine r_move (by conv => lhs; whnf) rfl rfl ?_
          refine r_move (by conv => lhs; whnf) rfl rfl ?_
          refine r_neq rfl rfl rfl rfl ?_
          refine r_pick_t rfl (by conv => lhs; whnf) rfl rfl ?_
          refine r_pick_f rfl (by conv => lhs; whnf) rfl rfl ?_
          refine wpl_nil ?_
          refine thn ?_
          refine k_cond_f rfl ?_
          refine k_skip ?_
          refine thn ?_
          refine k_seq ?_
          refine k_seq ?_
          (try simp only [List.nil_append, List.cons_append, List.set_cons_zero, List.set_cons_succ] at hS)
          refine k_region ?_
          refine r_move (by conv => lhs; whnf) rfl rfl ?_
          refine r_not rfl rfl rfl ?_
          refine wpl_nil ?_
          refine thn ?_
          refine k_cond_f rfl ?_
          refine k_skip ?_
          refine thn ?_
          refine k_seq ?_
          (try simp only [List.nil_append, List.cons_append, List.set_cons_zero, List.set_cons_succ] at hS)
          refine k_region ?_
          refine r_load rfl (ld_ba hS (i := 0) rfl rfl rfl ag_25) rfl rfl ?_
          refine r_move (by conv => lhs; whnf) rfl rfl ?_
          refine r_call rfl (c19 _ b A1 A2 n1 c1 n2 c2 (h1.ext hS.ext) (h2.ext hS.ext) (hP.ext hS.ext) b.bestP.1 aq b.bestP.1.length cq (hS.get (i := 1) rfl)) rfl rfl ?_
          rintro _ w23 ⟨hv23, hE⟩
          simp only [hobv, hob] at hv23
          subst hv23
          have hS := hS.step hE
          refine r_move (by conv => lhs; whnf) rfl rfl ?_
          refine r_extract rfl rfl rfl rfl ?_
          refine r_extract rfl rfl rfl rfl ?_
          refine r_alloc hS z_35 rfl rfl rfl ?_
          intro b12 w24 hS hE hB12
          refine r_storea hS (i := 3) rfl rfl rfl sz_35 rfl rfl rfl ?_
          intro w25 hS hE
          refine r_assign (by conv => lhs; whnf) rfl rfl ?_
          refine wpl_nil ?_
          refine thn ?_
          refine k_seq ?_
          (try simp only [List.nil_append, List.cons_append, List.set_cons_zero, List.set_cons_succ] at hS)
          refine k_region ?_
          refine r_load rfl (ld_ba hS (i := 0) rfl rfl rfl ag_25) rfl rfl ?_
          refine r_move (by conv => lhs; whnf) rfl rfl ?_
          refine r_call rfl (c19 _ b A1 A2 n1 c1 n2 c2 (h1.ext hS.ext) (h2.ext hS.ext) (hP.ext hS.ext) plan ap plan.length cp (row_rd (hS.get (i := 2) rfl) (by omega))) rfl rfl ?_
          rintro _ w26 ⟨hv26, hE⟩
          simp only [hopv, hop] at hv26
          subst hv26
          have hS := hS.step hE
          refine r_move (by conv => lhs; whnf) rfl rfl ?_
          refine r_extract rfl rfl rfl rfl ?_
          refine r_extract rfl rfl rfl rfl ?_
          refine r_alloc hS z_35 rfl rfl rfl ?_
          intro b14 w27 hS hE hB14
          refine r_storea hS (i := 4) rfl rfl rfl sz_35 rfl rfl rfl ?_
          intro w28 hS hE
          refine r_assign (by conv => lhs; whnf) rfl rfl ?_
          refine wpl_nil ?_
          refine thn ?_
          refine k_seq ?_
          (try simp only [List.nil_append, List.cons_append, List.set_cons_zero, List.set_cons_succ] at hS)
          refine k_region ?_
          refine r_move (by conv => lhs; whnf) rfl rfl ?_
          refine r_eql rfl rfl rfl rfl ?_
          refine r_move (by conv => lhs; whnf) rfl rfl ?_
          refine r_move (by conv => lhs; whnf) rfl rfl ?_
          refine r_eql rfl rfl rfl rfl ?_
          refine r_pick_t rfl (by conv => lhs; whnf) rfl rfl ?_
          refine r_move (by conv => lhs; whnf) rfl rfl ?_
          refine r_field rfl fl_35_1 rfl rfl ?_
          refine r_load rfl (ld_bs hS (i := 3) rfl rfl sc_3) rfl rfl ?_
          refine r_field rfl fl_35_1 rfl rfl ?_
          refine r_load rfl (ld_bs hS (i := 4) rfl rfl sc_3) rfl rfl ?_
          refine r_lss rfl rfl rfl rfl ?_
          refine r_moveb rfl rfl rfl (fun hb29 => ?_) (fun hb29 => ?_)
          · -- True
            skip
            have hlt := hb29
            refine r_skip rfl rfl ?_
            refine r_skip rfl rfl ?_
            refine r_skip rfl rfl ?_
            refine r_skip rfl rfl ?_
            refine r_skip rfl rfl ?_
            refine r_skip rfl rfl ?_
            refine r_skip rfl rfl ?_
            refine r_skip rfl rfl ?_
            refine r_skip rfl rfl ?_
            refine r_skip rfl rfl ?_
            refine r_skip rfl rfl ?_
            refine r_pick_t rfl (by conv => lhs; whnf) rfl rfl ?_
            refine r_pick_t rfl (by conv => lhs; whnf) rfl rfl ?_
            refine r_move (by conv => lhs; whnf) rfl rfl ?_
            refine r_call rfl (c15 _ (hP.ext hS.ext)) rfl rfl ?_
            rintro _ w30 ⟨rfl, hE⟩
            have hS := hS.step hE
            refine r_pick_t rfl (by conv => lhs; whnf) rfl rfl ?_
            refine r_assign (by conv => lhs; whnf) rfl rfl ?_
            refine wpl_nil ?_
            refine thn ?_
            refine ret1 (fun _ _ _ => rfl) (by conv => lhs; whnf) ?_
            exact ⟨rfl, hS.ext⟩
          · -- False
            skip
            have hnl := of_decide_eq_false hb29
            have hls : lessL plan b.bestP.1 = false := by
              rcases hbl with h | ⟨_, h⟩
              · exact absurd h hnl
              · exact h
            have hoe : b.offOf (b.cutOf b.bestP.1) true = b.offOf (b.cutOf plan) true := by omega
            refine r_field rfl fl_35_1 rfl rfl ?_
            refine r_load rfl (ld_bs hS (i := 3) rfl rfl sc_3) rfl rfl ?_
            refine r_field rfl fl_35_1 rfl rfl ?_
            refine r_load rfl (ld_bs hS (i := 4) rfl rfl sc_3) rfl rfl ?_
            refine r_eqlv rfl rfl (decide_eq_true (by omega)) rfl rfl ?_
            refine r_move (by conv => lhs; whnf) rfl rfl ?_
            refine r_move (by conv => lhs; whnf) rfl rfl ?_
            refine r_move (by conv => lhs; whnf) rfl rfl ?_
            refine r_call rfl (c28 _ plan b.bestP.1 _ _ _ _ _ _ (row_rd (hS.get (i := 2) rfl) (by omega)) (hS.get (i := 1) rfl)) rfl rfl ?_
            rintro _ w32 ⟨rfl, hE⟩
            have hS := hS.step hE
            rw [hls]
            refine r_not rfl rfl rfl ?_
            refine r_pick_t rfl (by conv => lhs; whnf) rfl rfl ?_
            refine r_pick_f rfl (by conv => lhs; whnf) rfl rfl ?_
            refine r_pick_t rfl (by conv => lhs; whnf) rfl rfl ?_
            refine r_move (by conv => lhs; whnf) rfl rfl ?_
            refine r_call rfl (c15 _ (hP.ext hS.ext)) rfl rfl ?_
            rintro _ w33 ⟨rfl, hE⟩
            have hS := hS.step hE
            refine r_pick_t rfl (by conv => lhs; whnf) rfl rfl ?_
            refine r_assign (by conv => lhs; whnf) rfl rfl ?_
            refine wpl_nil ?_
            refine thn ?_
            refine ret1 (fun _ _ _ => rfl) (by conv => lhs; whnf) ?_
            exact ⟨rfl, hS.ext⟩
end Go.Proofs.YtofpabocpcfbfaaDoor

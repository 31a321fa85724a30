/- Walks of the functions of the layer of hair, second part. Conditions: none. -/
import Derived.Test.YtofpabocpcfbfaaDoorMF
import Derived.Test.YtofpabocpcfbfaaDoorMT1
set_option linter.unusedSimpArgs false
set_option linter.unusedVariables false

/- Walks: T12. -/
namespace Go.Proofs.YtofpabocpcfbfaaDoor
open Go Go.Proofs K

theorem c81 (w : World) (b : HBook) (A1 A2 : Option Addr) (n1 c1 n2 c2 m : Nat) (hB : Bk w A1 A2 n1 n2 m b) (q1 : Nat) (s : Int) (hq1 : w.heap[q1]? = some (.cells (List.toArray [.int .i64 s]) 3 (0, 0))) : Cv Tryd.prog 81 #[.agg #[.slice A1 n1 c1, .slice A2 n2 c2, .int .i64 b.dark, .int .i64 b.near, .int .i64 b.mat, .map (some m)], ptr q1] w (fun v w' => v = .bool (shadeB s) ∧ Ext no w w') := by
  refine cv_intro Tryd.func81 rfl rfl Tryd.ntmps81 rfl (by kernel_rfl) ?_
  have hl1 := hB.h1.1
  have hl2 := hB.h2.1
  have hg := hB.good
  have hg1 := hg.l1
  have hg2 := hg.l2
  have hgd := hg.dark
  have hgn := hg.near
  have hgm := hg.mat
  have hS := St.nil w
  refine k_seq ?_
  refine k_region ?_
  refine r_boxa hS rfl rfl rfl ?_
  intro b2 w1 hS hE hB2
  refine r_assign (by conv => lhs; whnf) rfl rfl ?_
  refine wpl_nil ?_
  refine thn ?_
  refine k_seq ?_
  refine k_region ?_
  refine r_load rfl (ld_hs (hS.ext.heap hq1 (fun x => x)) rfl sc_3) rfl rfl ?_
  refine r_call rfl (c82 _ _ _ _) rfl rfl ?_
  rintro _ w2 ⟨rfl, hE⟩
  have hS := hS.step hE
  refine r_assign (by conv => lhs; whnf) rfl rfl ?_
  refine wpl_nil ?_
  refine thn ?_
  refine ret1 (fun _ _ _ => rfl) (by conv => lhs; whnf) ?_
  refine ⟨congrArg Value.bool ?_, hS.ext⟩
  rfl

theorem c33 (w : World) (b : HBook) (A1 A2 : Option Addr) (n1 c1 n2 c2 : Nat) (h1 : RdRow Hank.enc 4 w A1 n1 b.hanks) (h2 : RdRow Horse.enc 3 w A2 n2 b.horses) (hP : Parts w) (hcap : n1 ≤ c1) (s : Int) : Cv Tryd.prog 33 #[.agg #[.slice A1 n1 c1, .slice A2 n2 c2, .int .i64 b.dark, .int .i64 b.near, .int .i64 b.mat], .int .i64 s] w (fun v w' => v = .tuple #[.int .i64 (b.buyV s), .int .i64 (b.buyE s)] ∧ Ext no w w') := by
  refine cv_intro Tryd.func33 rfl rfl Tryd.ntmps33 rfl (by kernel_rfl) ?_
  have hS := St.nil w
  have hl1 := h1.1
  have hl2 := h2.1
  refine k_seq ?_
  refine k_region ?_
  refine r_boxa hS rfl rfl rfl ?_
  intro b2 w1 hS hE hB2
  refine r_box1 hS (by conv => lhs; whnf) rfl rfl rfl ?_
  intro b3 w2 hS hE hB3
  refine r_assign (by conv => lhs; whnf) rfl rfl ?_
  refine r_assign (by conv => lhs; whnf) rfl rfl ?_
  refine wpl_nil ?_
  refine thn ?_
  refine k_seq ?_
  refine k_region ?_
  refine r_load rfl (ld_ba hS (i := 0) rfl rfl rfl ag_25) rfl rfl ?_
  refine r_makeFuncv (v1 := []) (v2 := [_]) trivial ⟨(by conv => lhs; whnf), trivial⟩ rfl rfl ?_
  refine r_call rfl (c65 _ b A1 A2 n1 c1 n2 c2 (h1.ext hS.ext) (h2.ext hS.ext) (hP.ext hS.ext) _ _ _ (shadeB s) (fun w2 m2 hE2 hB2 => c81 w2 b A1 A2 n1 c1 n2 c2 m2 hB2 b3 s (hE2.heap (hS.get (i := 1) rfl) (fun x => x)))) rfl rfl ?_
  rintro _ w3 ⟨L, e, m, rfl, he, hE, hL6, hLo, hmok, hmfp, hLB⟩
  have hS := hS.add hE (x := mpi e m (sh b)) hmok hmfp
  refine r_move (by conv => lhs; whnf) rfl rfl ?_
  refine r_extract rfl rfl rfl rfl ?_
  refine r_extract rfl rfl rfl rfl ?_
  refine r_alloc hS z_99 rfl rfl rfl ?_
  intro b6 w4 hS hE hB6
  refine r_storel hS (i := 3) rfl rfl rfl sz_99 hL6 hLo rfl rfl ?_
  intro w6 hS hE
  refine r_assign (by conv => lhs; whnf) rfl rfl ?_
  refine wpl_nil ?_
  refine thn ?_
  refine k_seq ?_
  refine k_seq ?_
  refine k_region ?_
  refine r_move (by conv => lhs; whnf) rfl rfl ?_
  refine r_neq rfl rfl rfl rfl ?_
  refine wpl_nil ?_
  refine thn ?_
  refine k_cond rfl (fun hc7 => ?_) (fun hc7 => ?_)
  · -- t
    skip
    have hcz : ¬ e = 0 := by simpa using hc7
    refine k_seq ?_
    refine k_region ?_
    refine r_move (by conv => lhs; whnf) rfl rfl ?_
    refine r_assign (by conv => lhs; whnf) rfl rfl ?_
    refine r_assign (by conv => lhs; whnf) rfl rfl ?_
    refine wpl_nil ?_
    refine thn ?_
    refine ret2 (fun _ _ _ => rfl) (by conv => lhs; whnf) (by conv => lhs; whnf) ?_
    have h0 : b.buyE s = e := by unfold HBook.buyE; rw [show b.buyA s = e from he.symm]; simp [hcz]
    have h1 : b.buyV s = 0 := by unfold HBook.buyV; rw [show b.buyA s = e from he.symm]; simp [hcz]
    exact ⟨by (rw [h0, h1]) <;> rfl, hS.ext⟩
  · -- f
    skip
    have hcz : e = 0 := by simpa using hc7
    have hLe := hLB hcz
    subst hLe
    have hask := b.ask_zero (he.symm.trans hcz)
    have hg := (GoodB.of_valid hask.1).1
    have hg1 := hg.l1
    have hg2 := hg.l2
    have hs : 0 ≤ s ∧ s ≤ 20 := by have := hask.2; unfold shadeB at this; simpa using this
    have h4 := (GoodB.of_valid hask.1).2
    have hgd := hg.dark
    have hgn := hg.near
    have hgm := hg.mat
    have hlen : ((n1 : Int)).toNat + 1 = n1 + 1 := by omega
    have hmap : b.hanks.flatMap Hank.enc ++ [.int .i64 60, .int .i64 60, .int .i64 s, .int .i64 s] = (b.plus s).hanks.flatMap Hank.enc := by simp [newHank]
    refine k_skip ?_
    refine thn ?_
    refine k_seq ?_
    refine k_seq ?_
    refine k_region ?_
    refine r_load rfl (ld_ba hS (i := 3) rfl rfl rfl ag_99) rfl rfl ?_
    refine r_call rfl (c79 _ b A1 A2 n1 c1 n2 c2 m (mkBi h1 h2 hP hg hS (i := 2) rfl hcz)) rfl rfl ?_
    rintro _ w8 ⟨rfl, hE⟩
    have hS := hS.step hE
    refine wpl_nil ?_
    refine thn ?_
    refine k_cond rfl (fun hc9 => ?_) (fun hc9 => ?_)
    · -- t
      have hsv := hc9
      refine k_seq ?_
      refine k_region ?_
      refine r_assign (by conv => lhs; whnf) rfl rfl ?_
      refine r_assign (by conv => lhs; whnf) rfl rfl ?_
      refine wpl_nil ?_
      refine thn ?_
      refine ret2 (fun _ _ _ => rfl) (by conv => lhs; whnf) (by conv => lhs; whnf) ?_
      have h0 : b.buyE s = 0 := by unfold HBook.buyE; rw [show b.buyA s = 0 from he.symm.trans hcz, hsv]; rfl
      have h1 : b.buyV s = 0 := by unfold HBook.buyV; rw [show b.buyA s = 0 from he.symm.trans hcz, hsv]; rfl
      exact ⟨by (rw [h0, h1]) <;> rfl, hS.ext⟩
    · -- f
      have hsv := hc9
      refine k_skip ?_
      refine thn ?_
      refine k_seq ?_
      have hSb := hS
      apply k_draw (m := 7) (ss := [.val _, .val _, .val _, .val _, .ex (Mk 35 _), .ex (Mk 35 _), .st 4 (Mk 35 _)]) mixed rfl (by kernel_rfl) (by kernel_rfl) rfl rfl rfl
      · refine ⟨?_, ?_, ?_, ?_, ?_, ?_, ?_, trivial⟩
        · -- op 0
          intro jnk vals lo hi w10 hE0 hd
          have hS := hS.step hE0
          refine r_buildv (vs := [(_, _), (_, _)]) z_35 pl_35 ⟨rfl, (by conv => lhs; whnf), rfl, (by conv => lhs; whnf), trivial⟩ rfl rfl rfl ?_
          refine wpl_end ?_
          exact ⟨rfl, Ext.refl _ _, rfl⟩
        · -- op 1
          intro jnk vals lo hi w11 hE0 hd
          have hS := hS.step hE0
          refine r_load rfl (ld_bs hS (i := 1) rfl rfl sc_3) rfl rfl ?_
          refine wpl_end ?_
          exact ⟨rfl, Ext.refl _ _, rfl⟩
        · -- op 2
          intro jnk vals lo hi w12 hE0 hd
          have hS := hS.step hE0
          refine r_load rfl (ld_bs hS (i := 1) rfl rfl sc_3) rfl rfl ?_
          refine wpl_end ?_
          exact ⟨rfl, Ext.refl _ _, rfl⟩
        · -- op 3
          intro jnk vals lo hi w13 hE0 hd
          have hS := hS.step hE0
          refine r_buildv (vs := [(_, _), (_, _)]) z_35 pl_35 ⟨rfl, (by conv => lhs; whnf), rfl, (by conv => lhs; whnf), trivial⟩ rfl rfl rfl ?_
          refine wpl_end ?_
          exact ⟨rfl, Ext.refl _ _, rfl⟩
        · -- op 4
          intro jnk vals lo hi w14 hE0 hd
          have hS := hS.step hE0
          refine r_alloc hS z_35 rfl rfl rfl ?_
          intro b8 w15 hS hE hB8
          refine wpl_end ?_
          exact ⟨rfl, hE.of_no, mk_alloc (hS.get (i := 4) rfl) hB8⟩
        · -- op 5
          intro jnk vals lo hi w16 hE0 hd
          have hS := hS.step hE0
          refine r_alloc hS z_35 rfl rfl rfl ?_
          intro b9 w17 hS hE hB9
          refine wpl_end ?_
          exact ⟨rfl, hE.of_no, mk_alloc (hS.get (i := 4) rfl) hB9⟩
        · -- op 6
          intro jnk vals lo hi w18 hE0 hd
          have hS := hS.step hE0
          obtain ⟨b4, hv4, hl4, hh4, hb4⟩ := hd 4 (by decide) rfl
          rw [vset_eq hv4]
          refine r_store0 rfl rfl rfl hb4 sz_35 rfl rfl rfl ?_
          intro w19 hE hb
          refine wpl_end ?_
          exact ⟨rfl, ext_wr hE ⟨4, rfl, hl4, hh4⟩, ⟨b4, rfl, hl4, hh4, hb⟩⟩
      · intro φ hφ v lo hi S w1 w2 hEa hEb hSb2
        rcases hφ with hφ | ⟨j, hφ⟩
        · simp at hφ
          rcases hφ with rfl | rfl
          all_goals first | exact mk_stays hEa hEb hSb2 | exact row_stays hEa hEb hSb2 | exact rown_stays hEa hEb hSb2
        · simp at hφ
          obtain ⟨_, rfl⟩ := hφ
          all_goals first | exact mk_stays hEa hEb hSb2 | exact row_stays hEa hEb hSb2 | exact rown_stays hEa hEb hSb2
      intro jnk vals lo hi w20 hE0 hsat hdj hbd
      obtain ⟨c20_4, hv4, hl4, hh4, hb4⟩ := hsat 6 (by decide) rfl
      rw [vset_eq hv4]
      obtain ⟨c20_5, hv5, hl5, hh5, hb5⟩ := hsat 5 (by decide) rfl
      rw [vset_eq hv5]
      have hS := mk_add2 hS hE0 (hbd 4 (by decide)) (hbd 5 (by decide)) (hdj 4 5 (by decide) (by decide) (by decide)) hl4 hh4 hb4 hl5 hh5 hb5
      refine r_storea hS (i := 5) rfl rfl rfl sz_35 rfl rfl rfl ?_
      intro w21 hS hE
      refine wpl_nil ?_
      refine thn ?_
      refine k_seq ?_
      (try simp only [List.nil_append, List.cons_append, List.set_cons_zero, List.set_cons_succ] at hS)
      have hSb := hS
      apply k_draw (m := 13) (ss := [.val _, .val _, .val _, .val _, .val _, .val _, .val _, .val _, .val _, .val _, .val _, .val _, .ex (Row [.int .i64 60, .int .i64 60, .int .i64 s, .int .i64 s] 1 1)]) mixed rfl (by kernel_rfl) (by kernel_rfl) rfl rfl rfl
      · refine ⟨?_, ?_, ?_, ?_, ?_, ?_, ?_, ?_, ?_, ?_, ?_, ?_, ?_, trivial⟩
        · -- op 0
          intro jnk vals lo hi w22 hE0 hd
          have hS := hS.step hE0
          refine r_field rfl fl_25_0 rfl rfl ?_
          refine wpl_end ?_
          exact ⟨rfl, Ext.refl _ _, rfl⟩
        · -- op 1
          intro jnk vals lo hi w23 hE0 hd
          have hS := hS.step hE0
          refine r_load rfl (ld_bs hS (i := 0) rfl rfl sc_22) rfl rfl ?_
          refine wpl_end ?_
          exact ⟨rfl, Ext.refl _ _, rfl⟩
        · -- op 2
          intro jnk vals lo hi w24 hE0 hd
          have hS := hS.step hE0
          refine r_field rfl fl_25_0 rfl rfl ?_
          refine wpl_end ?_
          exact ⟨rfl, Ext.refl _ _, rfl⟩
        · -- op 3
          intro jnk vals lo hi w25 hE0 hd
          have hS := hS.step hE0
          refine r_load rfl (ld_bs hS (i := 0) rfl rfl sc_22) rfl rfl ?_
          refine wpl_end ?_
          exact ⟨rfl, Ext.refl _ _, rfl⟩
        · -- op 4
          intro jnk vals lo hi w26 hE0 hd
          have hS := hS.step hE0
          refine r_len rfl sl_22 rfl rfl ?_
          refine wpl_end ?_
          exact ⟨rfl, Ext.refl _ _, rfl⟩
        · -- op 5
          intro jnk vals lo hi w27 hE0 hd
          have hS := hS.step hE0
          refine r_field rfl fl_25_0 rfl rfl ?_
          refine wpl_end ?_
          exact ⟨rfl, Ext.refl _ _, rfl⟩
        · -- op 6
          intro jnk vals lo hi w28 hE0 hd
          have hS := hS.step hE0
          refine r_load rfl (ld_bs hS (i := 0) rfl rfl sc_22) rfl rfl ?_
          refine wpl_end ?_
          exact ⟨rfl, Ext.refl _ _, rfl⟩
        · -- op 7
          intro jnk vals lo hi w29 hE0 hd
          have hS := hS.step hE0
          refine r_len rfl sl_22 rfl rfl ?_
          refine wpl_end ?_
          exact ⟨rfl, Ext.refl _ _, rfl⟩
        · -- op 8
          intro jnk vals lo hi w30 hE0 hd
          have hS := hS.step hE0
          refine r_slice3 (e := 0) rfl rfl rfl sl_22 (by omega) rfl rfl ?_
          refine wpl_end ?_
          exact ⟨rfl, Ext.refl _ _, rfl⟩
        · -- op 9
          intro jnk vals lo hi w32 hE0 hd
          have hS := hS.step hE0
          refine r_load rfl (ld_ba hS (i := 4) rfl rfl rfl ag_35) rfl rfl ?_
          refine wpl_end ?_
          exact ⟨rfl, Ext.refl _ _, rfl⟩
        · -- op 10
          intro jnk vals lo hi w33 hE0 hd
          have hS := hS.step hE0
          refine r_load rfl (ld_ba hS (i := 5) rfl rfl rfl ag_35) rfl rfl ?_
          refine wpl_end ?_
          exact ⟨rfl, Ext.refl _ _, rfl⟩
        · -- op 11
          intro jnk vals lo hi w34 hE0 hd
          have hS := hS.step hE0
          refine r_buildv (vs := [(_, _), (_, _)]) z_42 pl_42 ⟨rfl, (by conv => lhs; whnf), rfl, (by conv => lhs; whnf), trivial⟩ rfl rfl rfl ?_
          refine wpl_end ?_
          exact ⟨rfl, Ext.refl _ _, rfl⟩
        · -- op 12
          intro jnk vals lo hi w35 hE0 hd
          have hS := hS.step hE0
          refine r_buildSlice hS us_22 sz_42 z_42 rfl rfl rfl rfl rfl ?_
          intro b41 w36 hS hE hB41
          refine wpl_end ?_
          exact ⟨rfl, hE.of_no, row_build (hS.get (i := 6) rfl) hB41⟩
      · intro φ hφ v lo hi S w1 w2 hEa hEb hSb2
        rcases hφ with hφ | ⟨j, hφ⟩
        · simp at hφ
          subst hφ
          all_goals first | exact mk_stays hEa hEb hSb2 | exact row_stays hEa hEb hSb2 | exact rown_stays hEa hEb hSb2
        · simp at hφ
      intro jnk vals lo hi w37 hE0 hsat hdj hbd
      have hS := hS.step hE0
      obtain ⟨r37_12, hv12, hl12, hh12, hr12⟩ := hsat 12 (by decide) rfl
      rw [vset_eq hv12]
      refine r_appendn (a := A1) (n := ((n1 : Int)).toNat) (c := ((n1 : Int)).toNat) (cs := b.hanks.flatMap Hank.enc) hS rfl rfl us_22 us_22 sz_42 by_42 z_42 rfl (rd_src henc_len (h1.ext hS.ext)) (by rw [flat_len henc_len]; omega) (show Src _ (some _) _ from hr12) rfl (by omega) (by omega) rfl rfl rfl ?_
      intro b13 c13 w39 hS hE hB13
      rw [hlen]
      rw [hlen, hmap] at hS
      refine r_field rfl fl_25_0 rfl rfl ?_
      refine r_store1 hS (i := 0) rfl (by conv => lhs; whnf) rfl rfl sz_22 rfl rfl rfl ?_
      intro w42 hS hE
      refine wpl_nil ?_
      refine thn ?_
      refine k_seq ?_
      (try simp only [List.nil_append, List.cons_append, List.set_cons_zero, List.set_cons_succ] at hS)
      refine k_region ?_
      refine r_load rfl (ld_ba hS (i := 0) rfl rfl rfl ag_25) rfl rfl ?_
      refine r_call rfl (c76 _ (b.plus s) (some ⟨b13, 0, none⟩) A2 (n1 + 1) c13 n2 c2 (row_rdrow henc_len (hS.get (i := 6) rfl) (by simp; omega) (by simp; omega)) (h2.ext hS.ext) (b.plus_good hg h4 hs) (hP.ext hS.ext)) rfl rfl ?_
      rintro _ w43 ⟨m2, rfl, hE, hB0, hm0⟩
      have hS := hS.add hE (x := mp m2 (sh (b.plus s))) hB0.hm (fun k hk => by cases hk; exact ⟨hm0, blk_lt hB0.hm⟩)
      refine r_alloc hS z_99 rfl rfl rfl ?_
      intro b10 w44 hS hE hB10
      refine r_alloc hS z_3 rfl rfl rfl ?_
      intro b11 w45 hS hE hB11
      refine r_storea hS (i := 8) rfl rfl rfl sz_99 rfl rfl rfl ?_
      intro w46 hS hE
      refine r_store1 hS (i := 9) rfl (by conv => lhs; whnf) rfl rfl sz_3 rfl rfl rfl ?_
      intro w47 hS hE
      refine wpl_nil ?_
      refine thn ?_
      refine k_seq ?_
      refine k_seq ?_
      (try simp only [List.nil_append, List.cons_append, List.set_cons_zero, List.set_cons_succ] at hS)
      have hSb := hS
      apply k_draw (m := 4) (ss := [.val _, .val _, .val _, .val _]) mixed rfl (by kernel_rfl) (by kernel_rfl) rfl rfl rfl
      · refine ⟨?_, ?_, ?_, ?_, trivial⟩
        · -- op 0
          intro jnk vals lo hi w48 hE0 hd
          have hS := hS.step hE0
          refine r_load rfl (ld_ba hS (i := 8) rfl rfl rfl ag_99) rfl rfl ?_
          refine wpl_end ?_
          exact ⟨rfl, Ext.refl _ _, rfl⟩
        · -- op 1
          intro jnk vals lo hi w49 hE0 hd
          have hS := hS.step hE0
          refine r_call rfl (c72 _) rfl rfl ?_
          rintro _ w50 ⟨rfl, hE⟩
          have hS := hS.step hE
          refine wpl_end ?_
          exact ⟨rfl, hE.of_no, rfl⟩
        · -- op 2
          intro jnk vals lo hi w51 hE0 hd
          have hS := hS.step hE0
          refine r_load rfl (ld_ba hS (i := 8) rfl rfl rfl ag_99) rfl rfl ?_
          refine wpl_end ?_
          exact ⟨rfl, Ext.refl _ _, rfl⟩
        · -- op 3
          intro jnk vals lo hi w52 hE0 hd
          have hS := hS.step hE0
          refine r_makeFuncv (v1 := [_]) (v2 := []) ⟨(by conv => lhs; whnf), trivial⟩ trivial rfl rfl ?_
          refine wpl_end ?_
          exact ⟨rfl, Ext.refl _ _, rfl⟩
      · intro φ hφ v lo hi S w1 w2 hEa hEb hSb2
        simp at hφ
      intro jnk vals lo hi w53 hE0 hsat hdj hbd
      have hS := hS.step hE0
      have hSl := hS
      refine r_call rfl (c83 _ (b.plus s) (some ⟨b13, 0, none⟩) A2 (n1 + 1) c13 n2 c2 m2 ⟨row_rdrow henc_len (hS.get (i := 6) rfl) (by simp; omega) (by simp; omega), h2.ext hS.ext, hS.get (i := 7) rfl, b.plus_good hg h4 hs, hP.ext hS.ext⟩ false) rfl rfl ?_
      rintro _ w54 ⟨x3, x4, x5, rfl, hE, hdat, hx3, hx4, hx5⟩
      have hS := hS.step hE
      refine wpl_nil ?_
      refine thn ?_
      refine k_block ?_
      (try simp only [List.nil_append, List.cons_append, List.set_cons_zero, List.set_cons_succ] at hS hSl)
      have hSp : St (bs w) _ [box b2 25 [.slice (some ⟨b13, 0, none⟩) (n1 + 1) c13, .slice A2 n2 c2, .int .i64 b.dark, .int .i64 b.near, .int .i64 b.mat], box b11 3 [.int .i64 61]] := hS.pick2 (i := 0) (j := 9) rfl rfl (by decide)
      refine k_range (ι := Int) (En := EnP) rfl (iterP (b.plus s) false (some ⟨b13, 0, none⟩) A2 (n1 + 1) c13 n2 c2 m2 x3 x4 x5) (hdat) (fun k hk => dat_lt hdat hk) (fun i => [box b2 25 [.slice (some ⟨b13, 0, none⟩) (n1 + 1) c13, .slice A2 n2 c2, .int .i64 b.dark, .int .i64 b.near, .int .i64 b.mat], box b11 3 [.int .i64 i]]) (fun pre i => i = pre.foldl (fun n x => min n (x.2.getD b.hanks.length 0)) 61) (fun c pre i => False) (61) (hSp) (rfl) (dis2 hSl (i1 := 0) (i2 := 9) (ir := 6) (im := 7) rfl rfl rfl rfl ⟨by decide, by decide, by decide, by decide⟩ h2 hP hx3.1 hx4.1 hx5.1) rfl (fun _ _ _ h => enp_len h) ?_ ?_ ?_
      · -- round
        rintro D l r r2 pre x args it i w1 hpre hG ⟨ax, cx, rfl, rfl⟩ hwsz hS
        have hu := (HBook.plans_ok (b.plus_good hg h4 hs) (pre_mem hpre)).2.2
        have hidx : (((n1 + 1 : Nat) : Int) - 1).toNat = b.hanks.length := by omega
        (try simp only [List.nil_append, List.cons_append, List.set_cons_zero, List.set_cons_succ] at hS)
        refine k_region ?_
        refine r_alloc hS z_104 rfl rfl rfl ?_
        intro b13 w55 hS hE hB13
        refine r_storeu hS (i := 5) rfl rfl rfl sz_104 hu.len rfl rfl ?_
        intro w57 hS hE
        refine wpl_nil ?_
        refine thn ?_
        refine ⟨rfl, _, 3, hS, rfl, ?_⟩
        intro w58 hS
        refine k_block ?_
        (try simp only [List.nil_append, List.cons_append, List.set_cons_zero, List.set_cons_succ] at hS)
        have hSb := hS
        apply k_draw (m := 7) (ss := [.val _, .val _, .val _, .val _, .val _, .val _, .val _]) mixed rfl (by kernel_rfl) (by kernel_rfl) rfl rfl rfl
        · refine ⟨?_, ?_, ?_, ?_, ?_, ?_, ?_, trivial⟩
          · -- op 0
            intro jnk vals lo hi w59 hE0 hd
            have hS := hS.step hE0
            refine r_load rfl (ld_bs hS (i := 1) rfl rfl sc_3) rfl rfl ?_
            refine wpl_end ?_
            exact ⟨rfl, Ext.refl _ _, rfl⟩
          · -- op 1
            intro jnk vals lo hi w60 hE0 hd
            have hS := hS.step hE0
            refine r_field rfl fl_25_0 rfl rfl ?_
            refine wpl_end ?_
            exact ⟨rfl, Ext.refl _ _, rfl⟩
          · -- op 2
            intro jnk vals lo hi w61 hE0 hd
            have hS := hS.step hE0
            refine r_load rfl (ld_bs hS (i := 0) rfl rfl sc_22) rfl rfl ?_
            refine wpl_end ?_
            exact ⟨rfl, Ext.refl _ _, rfl⟩
          · -- op 3
            intro jnk vals lo hi w62 hE0 hd
            have hS := hS.step hE0
            refine r_len rfl sl_22 rfl rfl ?_
            refine wpl_end ?_
            exact ⟨rfl, Ext.refl _ _, rfl⟩
          · -- op 4
            intro jnk vals lo hi w63 hE0 hd
            have hS := hS.step hE0
            refine r_sub rfl rfl rfl rfl (by omega) ?_
            refine wpl_end ?_
            exact ⟨rfl, Ext.refl _ _, rfl⟩
          · -- op 5
            intro jnk vals lo hi w64 hE0 hd
            have hS := hS.step hE0
            refine r_indexa rfl rfl ar_104 (by omega) rfl rfl ?_
            refine wpl_end ?_
            exact ⟨rfl, Ext.refl _ _, rfl⟩
          · -- op 6
            intro jnk vals lo hi w65 hE0 hd
            have hS := hS.step hE0
            refine r_load rfl (ld_arr (u := x.2) (hS.get (i := 5) rfl) sc_3 (by rw [hu.len]; omega)) rfl rfl ?_
            refine wpl_end ?_
            exact ⟨rfl, Ext.refl _ _, rfl⟩
        · intro φ hφ v lo hi S w1 w2 hEa hEb hSb2
          simp at hφ
        intro jnk vals lo hi w67 hE0 hsat hdj hbd
        have hS := hS.step hE0
        refine r_min2 rfl rfl rfl rfl ?_
        refine r_store1 hS (i := 1) rfl (by conv => lhs; whnf) rfl rfl sz_3 rfl rfl rfl ?_
        intro w68 hS hE
        refine wpl_nil ?_
        refine blk_n ?_
        rw [hidx] at hS
        refine ⟨min i (x.2.getD b.hanks.length 0), ?_, hS.pick [0, 1, 2, 3] rfl⟩
        dsimp only
        rw [List.foldl_append, ← hG]
        rfl
      · -- done
        rintro D i w9 hG hS
        have hbn : b.buyN s = i := hG.symm
        refine blk_n ?_
        refine thn ?_
        refine k_seq ?_
        refine k_seq ?_
        refine k_region ?_
        refine r_load rfl (ld_bs hS (i := 1) rfl rfl sc_3) rfl rfl ?_
        refine r_gtr rfl rfl rfl rfl ?_
        refine wpl_nil ?_
        refine thn ?_
        refine k_cond rfl (fun hc69 => ?_) (fun hc69 => ?_)
        · -- t
          have hgt := hc69
          refine k_seq ?_
          refine k_region ?_
          refine r_assign (by conv => lhs; whnf) rfl rfl ?_
          refine r_assign (by conv => lhs; whnf) rfl rfl ?_
          refine wpl_nil ?_
          refine thn ?_
          refine ret_d [_, _] (fun _ _ _ => rfl) hS (i := 2) rfl (fun w10 hS => ⟨⟨(by conv => lhs; whnf), (by conv => lhs; whnf), trivial⟩, ?_⟩)
          rw [← hbn] at hgt
          have h0 : b.buyE s = 4 := by unfold HBook.buyE; rw [show b.buyA s = 0 from he.symm.trans hcz, hsv, hgt]; rfl
          have h1 : b.buyV s = 0 := by unfold HBook.buyV; rw [show b.buyA s = 0 from he.symm.trans hcz, hsv, hgt]; rfl
          exact ⟨by (rw [h0, h1]) <;> rfl, hS.ext⟩
        · -- f
          have hgt := hc69
          refine k_skip ?_
          refine thn ?_
          refine k_seq ?_
          refine k_region ?_
          refine r_load rfl (ld_bs hS (i := 1) rfl rfl sc_3) rfl rfl ?_
          refine r_assign (by conv => lhs; whnf) rfl rfl ?_
          refine r_assign (by conv => lhs; whnf) rfl rfl ?_
          refine wpl_nil ?_
          refine thn ?_
          refine ret_d [_, _] (fun _ _ _ => rfl) hS (i := 2) rfl (fun w10 hS => ⟨⟨(by conv => lhs; whnf), (by conv => lhs; whnf), trivial⟩, ?_⟩)
          rw [← hbn] at hgt
          have h0 : b.buyE s = 0 := by unfold HBook.buyE; rw [show b.buyA s = 0 from he.symm.trans hcz, hsv, hgt]; rfl
          have h1 : b.buyV s = b.buyN s := by unfold HBook.buyV; rw [show b.buyA s = 0 from he.symm.trans hcz, hsv, hgt]; rfl
          exact ⟨by rw [h0, h1, hbn]; rfl, hS.ext⟩
      · -- stop
        exact fun D c pre i w9 hpre hG hS => hG.elim
end Go.Proofs.YtofpabocpcfbfaaDoor

/- Walks: T13. -/
namespace Go.Proofs.YtofpabocpcfbfaaDoor
open Go Go.Proofs K

theorem c86 (b : HBook) (A1 A2 : Option Addr) (n1 c1 n2 c2 q1 q2 : Nat) (g : GoodB b) (r : Nat) (ih : ∀ q, r = q + 1 → KnownOk Tryd.prog b A1 A2 n1 c1 n2 c2 q1 q2 q) : KnownOk Tryd.prog b A1 A2 n1 c1 n2 c2 q1 q2 r := by
  intro hs Ah ch w hr hgs hh hcap h1 h2 hP hq1 hq2
  refine cv_intro Tryd.func86 rfl rfl Tryd.ntmps86 rfl (by kernel_rfl) ?_
  have hS := St.nil w
  have hl1 := h1.1
  have hl2 := h2.1
  have hg1 := g.l1
  have hg2 := g.l2
  have hlk : (b.of hs).hanks.length = hs.length := rfl
  refine k_seq ?_
  refine k_region ?_
  refine r_alloc hS z_4 rfl rfl rfl ?_
  intro b4 w1 hS hE hB4
  refine wpl_nil ?_
  refine thn ?_
  refine k_seq ?_
  refine k_region ?_
  refine r_move (by conv => lhs; whnf) rfl rfl ?_
  refine r_len rfl sl_22 rfl rfl ?_
  refine r_assign (by conv => lhs; whnf) rfl rfl ?_
  refine wpl_nil ?_
  refine thn ?_
  refine k_seq ?_
  refine k_seq ?_
  refine k_region ?_
  refine r_move (by conv => lhs; whnf) rfl rfl ?_
  refine r_field rfl fl_25_0 rfl rfl ?_
  refine r_load rfl (ld_hs (hS.ext.heap hq1 (fun x => x)) rfl sc_22) rfl rfl ?_
  refine r_len rfl sl_22 rfl rfl ?_
  refine r_eql rfl rfl rfl rfl ?_
  refine wpl_nil ?_
  refine thn ?_
  refine k_cond rfl (fun hc2 => ?_) (fun hc2 => ?_)
  · -- t
    have hc20 := hc2
    (try simp only [decide_eq_true_eq, decide_eq_false_iff_not, Bool.and_eq_true, Bool.and_eq_false_iff, Bool.not_eq_true', Bool.not_eq_false', Int.not_lt, Int.not_le] at hc2)
    obtain rfl : r = 0 := by omega
    refine k_seq ?_
    refine k_region ?_
    refine r_load rfl (ld_hb (hS.ext.heap hq1 (fun x => x)) rfl rfl ag_25) rfl rfl ?_
    refine r_alloc hS z_25 rfl rfl rfl ?_
    intro b6 w3 hS hE hB6
    refine r_storea hS (i := 1) rfl rfl rfl sz_25 rfl rfl rfl ?_
    intro w4 hS hE
    refine wpl_nil ?_
    refine thn ?_
    refine k_seq ?_
    refine k_region ?_
    refine r_move (by conv => lhs; whnf) rfl rfl ?_
    refine r_field rfl fl_25_0 rfl rfl ?_
    refine r_store1 hS (i := 1) rfl (by conv => lhs; whnf) rfl rfl sz_22 rfl rfl rfl ?_
    intro w5 hS hE
    refine wpl_nil ?_
    refine thn ?_
    refine k_seq ?_
    refine k_region ?_
    refine r_load rfl (ld_ba hS (i := 1) rfl rfl rfl ag_25) rfl rfl ?_
    refine r_call rfl (c76 _ (b.of hs) Ah A2 hs.length ch n2 c2 (hh.ext hS.ext) (h2.ext hS.ext) (g.of (by omega) hgs) (hP.ext hS.ext)) rfl rfl ?_
    rintro _ w6 ⟨m, rfl, hE, hB0, hm0⟩
    have hS := hS.add hE (x := mp m (sh (b.of hs))) hB0.hm (fun k hk => by cases hk; exact ⟨hm0, blk_lt hB0.hm⟩)
    refine r_alloc hS z_99 rfl rfl rfl ?_
    intro b7 w7 hS hE hB7
    refine r_storea hS (i := 3) rfl rfl rfl sz_99 rfl rfl rfl ?_
    intro w8 hS hE
    refine wpl_nil ?_
    refine thn ?_
    refine k_seq ?_
    refine k_seq ?_
    (try simp only [List.nil_append, List.cons_append, List.set_cons_zero, List.set_cons_succ] at hS)
    have hSb := hS
    apply k_draw (m := 4) (ss := [.val _, .val _, .val _, .val _]) mixed rfl (by kernel_rfl) (by kernel_rfl) rfl rfl rfl
    · refine ⟨?_, ?_, ?_, ?_, trivial⟩
      · -- op 0
        intro jnk vals lo hi w9 hE0 hd
        have hS := hS.step hE0
        refine r_load rfl (ld_ba hS (i := 3) rfl rfl rfl ag_99) rfl rfl ?_
        refine wpl_end ?_
        exact ⟨rfl, Ext.refl _ _, rfl⟩
      · -- op 1
        intro jnk vals lo hi w10 hE0 hd
        have hS := hS.step hE0
        refine r_call rfl (c73 _) rfl rfl ?_
        rintro _ w11 ⟨rfl, hE⟩
        have hS := hS.step hE
        refine wpl_end ?_
        exact ⟨rfl, hE.of_no, rfl⟩
      · -- op 2
        intro jnk vals lo hi w12 hE0 hd
        have hS := hS.step hE0
        refine r_load rfl (ld_ba hS (i := 3) rfl rfl rfl ag_99) rfl rfl ?_
        refine wpl_end ?_
        exact ⟨rfl, Ext.refl _ _, rfl⟩
      · -- op 3
        intro jnk vals lo hi w13 hE0 hd
        have hS := hS.step hE0
        refine r_makeFuncv (v1 := [_]) (v2 := []) ⟨(by conv => lhs; whnf), trivial⟩ trivial rfl rfl ?_
        refine wpl_end ?_
        exact ⟨rfl, Ext.refl _ _, rfl⟩
    · intro φ hφ v lo hi S w1 w2 hEa hEb hSb2
      simp at hφ
    intro jnk vals lo hi w14 hE0 hsat hdj hbd
    have hS := hS.step hE0
    have hSl := hS
    refine r_call rfl (c83 _ (b.of hs) Ah A2 hs.length ch n2 c2 m ⟨hh.ext hS.ext, h2.ext hS.ext, hS.get (i := 2) rfl, g.of (by omega) hgs, hP.ext hS.ext⟩ true) rfl rfl ?_
    rintro _ w15 ⟨x3, x4, x5, rfl, hE, hdat, hx3, hx4, hx5⟩
    have hS := hS.step hE
    refine wpl_nil ?_
    refine thn ?_
    refine k_block ?_
    (try simp only [List.nil_append, List.cons_append, List.set_cons_zero, List.set_cons_succ] at hS hSl)
    have hSp : St (bs w) _ [box b4 4 [.bool false]] := hS.pick1 (i := 0) rfl
    refine k_range (ι := Bool) (En := EnP) rfl (iterP (b.of hs) true Ah A2 hs.length ch n2 c2 m x3 x4 x5) (hdat) (fun k hk => dat_lt hdat hk) (fun i => [box b4 4 [.bool i]]) (fun pre i => i = false ∧ pre = []) (fun c pre i => c = .ret ∧ i = true ∧ pre ≠ []) (false) (hSp) (⟨rfl, rfl⟩) (dis1 hSl (i1 := 0) (im := 2) rfl rfl (by decide) hh h2 hP hx3.1 hx4.1 hx5.1) rfl (fun _ _ _ h => enp_len h) ?_ ?_ ?_
    · -- round
      rintro D l r9 r2 pre x args it i w1 hpre ⟨rfl, rfl⟩ ⟨ax, cx, rfl, rfl⟩ hwsz hS
      refine k_skip ?_
      refine thn ?_
      refine ⟨rfl, _, 2, hS, rfl, ?_⟩
      intro w16 hS
      refine k_block ?_
      refine k_seq ?_
      (try simp only [List.nil_append, List.cons_append, List.set_cons_zero, List.set_cons_succ] at hS)
      refine k_region ?_
      refine r_store1 hS (i := 0) rfl (by conv => lhs; whnf) rfl rfl sz_4 rfl rfl rfl ?_
      intro w17 hS hE
      refine wpl_nil ?_
      refine thn ?_
      refine k_ret ?_
      exact ⟨true, ⟨rfl, rfl, by simp⟩, hS.pick [0, 1, 2] rfl⟩
    · -- done
      rintro D i w9 ⟨rfl, hG⟩ hS
      refine blk_n ?_
      refine thn ?_
      refine k_seq ?_
      refine k_region ?_
      refine r_store1 hS (i := 0) rfl (by conv => lhs; whnf) rfl rfl sz_4 rfl rfl rfl ?_
      intro w18 hS hE
      refine wpl_nil ?_
      refine thn ?_
      refine ret_d [_] (fun _ _ _ => rfl) hS (i := 1) rfl (fun w10 hS => ⟨⟨⟨_, rfl, ld_bs hS (i := 0) rfl rfl sc_4⟩, trivial⟩, congrArg Value.bool ?_, hS.ext⟩)
      unfold HBook.knownFrom HBook.servedAt
      rw [hG]
      rfl
    · -- stop
      rintro D c pre i w9 hpre ⟨rfl, rfl, hne⟩ hS
      refine ret_d [_] (fun _ _ _ => rfl) hS (i := 1) rfl (fun w10 hS => ⟨⟨⟨_, rfl, ld_bs hS (i := 0) rfl rfl sc_4⟩, trivial⟩, congrArg Value.bool ?_, hS.ext⟩)
      have hne2 : (b.of hs).plans true ≠ [] := fun h => hne (by rw [h] at hpre; simpa using hpre)
      unfold HBook.knownFrom HBook.servedAt
      cases hp9 : (b.of hs).plans true with
      | nil => exact absurd hp9 hne2
      | cons y l => rfl
  · -- f
    have hc20 := hc2
    (try simp only [decide_eq_true_eq, decide_eq_false_iff_not, Bool.and_eq_true, Bool.and_eq_false_iff, Bool.not_eq_true', Bool.not_eq_false', Int.not_lt, Int.not_le] at hc2)
    obtain ⟨r, rfl⟩ : ∃ q, r = q + 1 := ⟨r - 1, by omega⟩
    have ih := ih r rfl
    obtain ⟨a1, hA1, hc1⟩ := h1.nat (d := Hank0) (k := hs.length) (by omega)
    have hq := g.hank _ (getD_mem (d := Hank0) (k := hs.length) (by omega))
    refine k_skip ?_
    refine thn ?_
    refine k_seq ?_
    refine k_region ?_
    refine r_field rfl fl_25_0 rfl rfl ?_
    refine r_load rfl (ld_hs (hS.ext.heap hq1 (fun x => x)) rfl sc_22) rfl rfl ?_
    refine r_move (by conv => lhs; whnf) rfl rfl ?_
    refine r_index (congrArg (fun A => Value.slice A n1 c1) hA1) rfl sl_22 (by omega) rfl rfl ?_
    refine r_field rfl fl_42_1 rfl rfl ?_
    refine r_load rfl (ld_ag ((hc1.ext hS.ext).at 2 2) ag_35 rfl) rfl rfl ?_
    refine r_alloc hS z_35 rfl rfl rfl ?_
    intro b8 w21 hS hE hB8
    refine r_storea hS (i := 1) rfl rfl rfl sz_35 rfl rfl rfl ?_
    intro w22 hS hE
    refine wpl_nil ?_
    refine thn ?_
    refine k_seq ?_
    refine k_seq ?_
    refine k_region ?_
    refine r_field rfl fl_35_1 rfl rfl ?_
    refine r_load rfl (ld_bs hS (i := 1) rfl rfl sc_3) rfl rfl ?_
    refine r_field rfl fl_35_0 rfl rfl ?_
    refine r_load rfl (ld_bs hS (i := 1) rfl rfl sc_3) rfl rfl ?_
    refine r_sub rfl rfl rfl rfl (by omega) ?_
    refine r_add rfl rfl rfl rfl (by omega) ?_
    refine r_move (by conv => lhs; whnf) rfl rfl ?_
    refine wpl_nil ?_
    refine thn ?_
    refine k_block ?_
    refine k_loop (ι := Nat) [9, 10, 42, 43, 44, 45, 46, 47, 48, 49, 50, 51, 52, 53, 54, 55, 56, 57, 58, 59, 60, 61, 62, 63, 64, 65, 66, 67, 68, 69, 70] (fun n => [(42, .int .i64 (n : Int))]) (fun n w' => n ≤ ((b.hanks.getD hs.length Hank0).s.hi - (b.hanks.getD hs.length Hank0).s.lo + 1).toNat ∧ (List.range n).any (fun n => b.knownFrom r (hs ++ [oneHank (b.hanks.getD hs.length Hank0) n])) = false ∧ St (bs w) w' [box b4 4 [.bool false], box b8 35 [.int .i64 (b.hanks.getD hs.length Hank0).s.lo, .int .i64 (b.hanks.getD hs.length Hank0).s.hi]]) (fun n => ((b.hanks.getD hs.length Hank0).s.hi - (b.hanks.getD hs.length Hank0).s.lo + 1).toNat - n) 0 ⟨rfl, trivial⟩ ⟨Nat.zero_le _, rfl, hS⟩ ?_
    rintro n j w2 ⟨hn0, hany, hS⟩
    refine k_seq ?_
    refine k_region ?_
    refine r_lss rfl rfl rfl rfl ?_
    refine wpl_nil ?_
    refine thn ?_
    refine k_seq ?_
    refine k_cond rfl (fun hc24 => ?_) (fun hc24 => ?_)
    · -- t
      have hc240 := hc24
      (try simp only [decide_eq_true_eq, decide_eq_false_iff_not, Bool.and_eq_true, Bool.and_eq_false_iff, Bool.not_eq_true', Bool.not_eq_false', Int.not_lt, Int.not_le] at hc24)
      have hlen : ((hs.length : Int)).toNat + 1 = (hs ++ [oneHank (b.hanks.getD hs.length Hank0) n]).length := by simp
      have hmap : hs.flatMap Hank.enc ++ (oneHank (b.hanks.getD hs.length Hank0) n).enc = (hs ++ [oneHank (b.hanks.getD hs.length Hank0) n]).flatMap Hank.enc := by simp
      have hgs2 : ∀ x ∈ hs ++ [oneHank (b.hanks.getD hs.length Hank0) n], hankGood x := fun x hx => by rcases List.mem_append.1 hx with hx | hx; exact hgs x hx; cases List.mem_singleton.1 hx; simp only [oneHank, hankGood]; omega
      refine k_skip ?_
      refine thn ?_
      refine k_seq ?_
      refine k_block ?_
      refine k_seq ?_
      refine k_region ?_
      refine r_move (by conv => lhs; whnf) rfl rfl ?_
      refine r_assign (by conv => lhs; whnf) rfl rfl ?_
      refine wpl_nil ?_
      refine thn ?_
      refine k_seq ?_
      refine k_region ?_
      refine r_field rfl fl_35_0 rfl rfl ?_
      refine r_load rfl (ld_bs hS (i := 1) rfl rfl sc_3) rfl rfl ?_
      refine r_move (by conv => lhs; whnf) rfl rfl ?_
      refine r_add rfl rfl rfl rfl (by omega) ?_
      refine r_field rfl fl_35_0 rfl rfl ?_
      refine r_load rfl (ld_bs hS (i := 1) rfl rfl sc_3) rfl rfl ?_
      refine r_move (by conv => lhs; whnf) rfl rfl ?_
      refine r_add rfl rfl rfl rfl (by omega) ?_
      refine r_build z_35 pl_35 rfl rfl rfl ?_
      refine r_alloc hS z_35 rfl rfl rfl ?_
      intro b10 w25 hS hE hB10
      refine r_storea hS (i := 2) rfl rfl rfl sz_35 rfl rfl rfl ?_
      intro w26 hS hE
      refine wpl_nil ?_
      refine thn ?_
      refine k_seq ?_
      (try simp only [List.nil_append, List.cons_append, List.set_cons_zero, List.set_cons_succ] at hS)
      have hSb := hS
      apply k_draw (m := 15) (ss := [.val _, .val _, .val _, .val _, .val _, .val _, .val _, .val _, .val _, .val _, .val _, .val _, .val _, .ex (Row (oneHank (b.hanks.getD hs.length Hank0) n).enc 1 1), .ex (RowN 42 4 (hs ++ [oneHank (b.hanks.getD hs.length Hank0) n]).length ((hs ++ [oneHank (b.hanks.getD hs.length Hank0) n]).flatMap Hank.enc))]) mixed rfl (by kernel_rfl) (by kernel_rfl) rfl rfl rfl
      · refine ⟨?_, ?_, ?_, ?_, ?_, ?_, ?_, ?_, ?_, ?_, ?_, ?_, ?_, ?_, ?_, trivial⟩
        · -- op 0
          intro jnk vals lo hi w27 hE0 hd
          have hS := hS.step hE0
          refine r_load rfl (ld_hs (hS.ext.heap hq2 (fun x => x)) rfl sc_120) rfl rfl ?_
          refine wpl_end ?_
          exact ⟨rfl, Ext.refl _ _, rfl⟩
        · -- op 1
          intro jnk vals lo hi w28 hE0 hd
          have hS := hS.step hE0
          refine r_move (by conv => lhs; whnf) rfl rfl ?_
          refine wpl_end ?_
          exact ⟨rfl, Ext.refl _ _, rfl⟩
        · -- op 2
          intro jnk vals lo hi w29 hE0 hd
          have hS := hS.step hE0
          refine r_move (by conv => lhs; whnf) rfl rfl ?_
          refine wpl_end ?_
          exact ⟨rfl, Ext.refl _ _, rfl⟩
        · -- op 3
          intro jnk vals lo hi w30 hE0 hd
          have hS := hS.step hE0
          refine r_move (by conv => lhs; whnf) rfl rfl ?_
          refine wpl_end ?_
          exact ⟨rfl, Ext.refl _ _, rfl⟩
        · -- op 4
          intro jnk vals lo hi w31 hE0 hd
          have hS := hS.step hE0
          refine r_slice3 (e := 0) rfl rfl rfl sl_22 (by omega) rfl rfl ?_
          refine wpl_end ?_
          exact ⟨rfl, Ext.refl _ _, rfl⟩
        · -- op 5
          intro jnk vals lo hi w33 hE0 hd
          have hS := hS.step hE0
          refine r_field rfl fl_25_0 rfl rfl ?_
          refine wpl_end ?_
          exact ⟨rfl, Ext.refl _ _, rfl⟩
        · -- op 6
          intro jnk vals lo hi w34 hE0 hd
          have hS := hS.step hE0
          refine r_load rfl (ld_hs (hS.ext.heap hq1 (fun x => x)) rfl sc_22) rfl rfl ?_
          refine wpl_end ?_
          exact ⟨rfl, Ext.refl _ _, rfl⟩
        · -- op 7
          intro jnk vals lo hi w35 hE0 hd
          have hS := hS.step hE0
          refine r_move (by conv => lhs; whnf) rfl rfl ?_
          refine wpl_end ?_
          exact ⟨rfl, Ext.refl _ _, rfl⟩
        · -- op 8
          intro jnk vals lo hi w36 hE0 hd
          have hS := hS.step hE0
          refine r_index (congrArg (fun A => Value.slice A n1 c1) hA1) rfl sl_22 (by omega) rfl rfl ?_
          refine wpl_end ?_
          exact ⟨rfl, Ext.refl _ _, rfl⟩
        · -- op 9
          intro jnk vals lo hi w38 hE0 hd
          have hS := hS.step hE0
          refine r_field rfl fl_42_0 rfl rfl ?_
          refine wpl_end ?_
          exact ⟨rfl, Ext.refl _ _, rfl⟩
        · -- op 10
          intro jnk vals lo hi w39 hE0 hd
          have hS := hS.step hE0
          refine r_load rfl (ld_ag ((hc1.ext hS.ext).at 0 2) ag_35 rfl) rfl rfl ?_
          refine wpl_end ?_
          exact ⟨rfl, Ext.refl _ _, rfl⟩
        · -- op 11
          intro jnk vals lo hi w41 hE0 hd
          have hS := hS.step hE0
          refine r_load rfl (ld_ba hS (i := 2) rfl rfl rfl ag_35) rfl rfl ?_
          refine wpl_end ?_
          exact ⟨rfl, Ext.refl _ _, rfl⟩
        · -- op 12
          intro jnk vals lo hi w42 hE0 hd
          have hS := hS.step hE0
          refine r_buildv (vs := [(_, _), (_, _)]) z_42 pl_42 ⟨rfl, (by conv => lhs; whnf), rfl, (by conv => lhs; whnf), trivial⟩ rfl rfl rfl ?_
          refine wpl_end ?_
          exact ⟨rfl, Ext.refl _ _, rfl⟩
        · -- op 13
          intro jnk vals lo hi w43 hE0 hd
          have hS := hS.step hE0
          refine r_buildSlice hS us_22 sz_42 z_42 rfl rfl rfl rfl rfl ?_
          intro b67 w44 hS hE hB67
          refine wpl_end ?_
          exact ⟨rfl, hE.of_no, row_build (hS.get (i := 3) rfl) hB67⟩
        · -- op 14
          intro jnk vals lo hi w45 hE0 hd
          have hS := hS.step hE0
          obtain ⟨r13, hv13, hl13, hh13, hr13⟩ := hd 13 (by decide) rfl
          rw [vset_eq hv13]
          refine r_appendn (a := Ah) (n := ((hs.length : Int)).toNat) (c := ((hs.length : Int)).toNat) (cs := hs.flatMap Hank.enc) hS rfl rfl us_22 us_22 sz_42 by_42 z_42 rfl (rd_src henc_len (hh.ext hS.ext)) (by rw [flat_len henc_len]; omega) (show Src _ (some _) _ from hr13) rfl (by omega) (by omega) rfl rfl rfl ?_
          intro b14 c14 w47 hS hE hB14
          refine wpl_end ?_
          exact ⟨rfl, hE.of_no, rown_mk (hS.get (i := 3) rfl) hlen hmap hB14⟩
      · intro φ hφ v lo hi S w1 w2 hEa hEb hSb2
        rcases hφ with hφ | ⟨j, hφ⟩
        · simp at hφ
          rcases hφ with rfl | rfl
          all_goals first | exact mk_stays hEa hEb hSb2 | exact row_stays hEa hEb hSb2 | exact rown_stays hEa hEb hSb2
        · simp at hφ
      intro jnk vals lo hi w48 hE0 hsat hdj hbd
      have hS := hS.step hE0
      obtain ⟨r48_13, hv13, hl13, hh13, hr13⟩ := hsat 13 (by decide) rfl
      rw [vset_eq hv13]
      obtain ⟨q14, qc14, hv14, hl14, hh14, hr14⟩ := hsat 14 (by decide) rfl
      rw [vset_eq hv14]
      have hrd2 := row_rdrow henc_len hr14 rfl (by simp; omega)
      have hcp2 := row_cap hr14
      refine r_callv (l1 := []) (l2 := [_, _]) rfl (ih (hs ++ [oneHank (b.hanks.getD hs.length Hank0) n]) _ _ _ (by simp; omega) hgs2 hrd2 hcp2 (h1.ext hS.ext) (h2.ext hS.ext) (hP.ext hS.ext) (hS.ext.heap hq1 (fun x => x)) (hS.ext.heap hq2 (fun x => x))) rfl rfl ?_
      rintro _ w50 ⟨rfl, hE⟩
      have hS := hS.step hE
      refine wpl_nil ?_
      refine thn ?_
      refine k_cond rfl (fun hc52 => ?_) (fun hc52 => ?_)
      · -- t
        have hkt := hc52
        refine k_seq ?_
        (try simp only [List.nil_append, List.cons_append, List.set_cons_zero, List.set_cons_succ] at hS)
        refine k_region ?_
        refine r_store1 hS (i := 0) rfl (by conv => lhs; whnf) rfl rfl sz_4 rfl rfl rfl ?_
        intro w53 hS hE
        refine wpl_nil ?_
        refine thn ?_
        refine retc (fun _ _ _ => rfl) rfl (ld_bs hS (i := 0) rfl rfl sc_4) ?_
        refine ⟨congrArg Value.bool ?_, hS.ext⟩
        unfold HBook.knownFrom
        exact (any_true (p := (fun n => b.knownFrom r (hs ++ [oneHank (b.hanks.getD hs.length Hank0) n]))) hkt (by omega)).symm
      · -- f
        have hkt := hc52
        refine k_skip ?_
        refine blk_n ?_
        refine thn ?_
        (try simp only [List.nil_append, List.cons_append, List.set_cons_zero, List.set_cons_succ] at hS)
        refine k_region ?_
        refine r_add rfl rfl rfl rfl (by omega) ?_
        refine r_move (by conv => lhs; whnf) rfl rfl ?_
        refine wpl_nil ?_
        refine thn ?_
        refine ⟨n + 1, ⟨rfl, trivial⟩, ?_, ?_, ?_, rfl⟩
        · refine ⟨by omega, ?_, hS.take 2⟩
          rw [any_succ, hany]
          exact hkt
        · omega
        · (repeat (first | exact Agree.refl _ _ | exact agree_hv rfl (Agree.refl _ _) | refine agree_upd rfl ?_ | refine agree_mkF rfl ?_ | refine agree_hv rfl ?_))
    · -- f
      have hc240 := hc24
      (try simp only [decide_eq_true_eq, decide_eq_false_iff_not, Bool.and_eq_true, Bool.and_eq_false_iff, Bool.not_eq_true', Bool.not_eq_false', Int.not_lt, Int.not_le] at hc24)
      have hn : n = ((b.hanks.getD hs.length Hank0).s.hi - (b.hanks.getD hs.length Hank0).s.lo + 1).toNat := by omega
      refine k_exit ?_
      refine thn_e ?_
      refine thn_e ?_
      refine blk_e ?_
      refine thn ?_
      refine k_seq ?_
      refine k_region ?_
      refine r_store1 hS (i := 0) rfl (by conv => lhs; whnf) rfl rfl sz_4 rfl rfl rfl ?_
      intro w54 hS hE
      refine wpl_nil ?_
      refine thn ?_
      refine retc (fun _ _ _ => rfl) rfl (ld_bs hS (i := 0) rfl rfl sc_4) ?_
      refine ⟨congrArg Value.bool ?_, hS.ext⟩
      unfold HBook.knownFrom
      rw [← hn]
      exact hany.symm

theorem c86a (b : HBook) (A1 A2 : Option Addr) (n1 c1 n2 c2 q1 q2 : Nat) (g : GoodB b) : ∀ r, KnownOk Tryd.prog b A1 A2 n1 c1 n2 c2 q1 q2 r := by
  intro r
  induction r with
  | zero => exact c86 b A1 A2 n1 c1 n2 c2 q1 q2 g 0 (fun q h => by omega)
  | succ r ih => exact c86 b A1 A2 n1 c1 n2 c2 q1 q2 g (r + 1) (fun q h => by cases h; exact ih)

theorem c36 (w : World) (b : HBook) (A1 A2 : Option Addr) (n1 c1 n2 c2 : Nat) (h1 : RdRow Hank.enc 4 w A1 n1 b.hanks) (h2 : RdRow Horse.enc 3 w A2 n2 b.horses) (hP : Parts w) : Cv Tryd.prog 36 #[.agg #[.slice A1 n1 c1, .slice A2 n2 c2, .int .i64 b.dark, .int .i64 b.near, .int .i64 b.mat]] w (fun v w' => v = .tuple #[.bool b.perhapsV, .int .i64 b.perhapsE] ∧ Ext no w w') := by
  refine cv_intro Tryd.func36 rfl rfl Tryd.ntmps36 rfl (by kernel_rfl) ?_
  have hS := St.nil w
  have hl1 := h1.1
  have hl2 := h2.1
  refine k_seq ?_
  refine k_region ?_
  refine r_boxa hS rfl rfl rfl ?_
  intro b1 w1 hS hE hB1
  refine r_assign (by conv => lhs; whnf) rfl rfl ?_
  refine r_assign (by conv => lhs; whnf) rfl rfl ?_
  refine wpl_nil ?_
  refine thn ?_
  refine k_seq ?_
  refine k_seq ?_
  refine k_region ?_
  refine r_load rfl (ld_ba hS (i := 0) rfl rfl rfl ag_25) rfl rfl ?_
  refine r_call rfl (c46 _ b A1 A2 n1 c1 n2 c2 (h1.ext hS.ext) (h2.ext hS.ext)) rfl rfl ?_
  rintro _ w2 ⟨rfl, hE⟩
  have hS := hS.step hE
  refine r_assign (by conv => lhs; whnf) rfl rfl ?_
  refine wpl_nil ?_
  refine thn ?_
  refine k_seq ?_
  refine k_region ?_
  refine r_move (by conv => lhs; whnf) rfl rfl ?_
  refine r_neq rfl rfl rfl rfl ?_
  refine wpl_nil ?_
  refine thn ?_
  refine k_cond rfl (fun hc3 => ?_) (fun hc3 => ?_)
  · -- t
    have hc30 := hc3
    (try simp only [decide_eq_true_eq, decide_eq_false_iff_not, Bool.and_eq_true, Bool.and_eq_false_iff, Bool.not_eq_true', Bool.not_eq_false', Int.not_lt, Int.not_le] at hc3)
    have hv : b.valid = false := by cases h : b.valid with | false => rfl | true => exact absurd (show b.chk = 0 by unfold HBook.chk; rw [h]; rfl) hc3
    refine k_seq ?_
    refine k_region ?_
    refine r_move (by conv => lhs; whnf) rfl rfl ?_
    refine r_assign (by conv => lhs; whnf) rfl rfl ?_
    refine r_assign (by conv => lhs; whnf) rfl rfl ?_
    refine wpl_nil ?_
    refine thn ?_
    refine ret2 (fun _ _ _ => rfl) (by conv => lhs; whnf) (by conv => lhs; whnf) ?_
    have h0 : b.perhapsE = b.chk := rfl
    have h1 : b.perhapsV = false := by unfold HBook.perhapsV; rw [hv]; rfl
    exact ⟨by (rw [h0, h1]) <;> rfl, hS.ext⟩
  · -- f
    have hc30 := hc3
    (try simp only [decide_eq_true_eq, decide_eq_false_iff_not, Bool.and_eq_true, Bool.and_eq_false_iff, Bool.not_eq_true', Bool.not_eq_false', Int.not_lt, Int.not_le] at hc3)
    have hv : b.valid = true := by cases h : b.valid with | true => rfl | false => rw [show b.chk = 60 by unfold HBook.chk; rw [h]; rfl] at hc3; exact absurd hc3 (by decide)
    have hg := (GoodB.of_valid hv).1
    refine k_skip ?_
    refine thn ?_
    refine k_seq ?_
    refine k_region ?_
    refine r_alloc hS z_120 rfl rfl rfl ?_
    intro b5 w4 hS hE hB5
    refine wpl_nil ?_
    refine thn ?_
    refine k_seq ?_
    refine k_region ?_
    refine r_makeFuncv (v1 := []) (v2 := [_, _]) trivial ⟨(by conv => lhs; whnf), (by conv => lhs; whnf), trivial⟩ rfl rfl ?_
    refine r_store1 hS (i := 1) rfl (by conv => lhs; whnf) rfl rfl sz_120 rfl rfl rfl ?_
    intro w5 hS hE
    refine wpl_nil ?_
    refine thn ?_
    refine k_seq ?_
    refine k_region ?_
    refine r_load rfl (ld_bs hS (i := 1) rfl rfl sc_120) rfl rfl ?_
    refine r_callv (l1 := []) (l2 := [_, _]) rfl (c86a b A1 A2 n1 c1 n2 c2 b1 b5 hg b.hanks.length [] none 0 _ (by simp) (fun x hx => by simp at hx) ⟨rfl, by simp, fun i x hx => by simp at hx⟩ (Nat.zero_le _) (h1.ext hS.ext) (h2.ext hS.ext) (hP.ext hS.ext) (hS.get (i := 0) rfl) (hS.get (i := 1) rfl)) rfl rfl ?_
    rintro _ w7 ⟨rfl, hE⟩
    have hS := hS.step hE
    refine r_assign (by conv => lhs; whnf) rfl rfl ?_
    refine r_assign (by conv => lhs; whnf) rfl rfl ?_
    refine wpl_nil ?_
    refine thn ?_
    refine ret2 (fun _ _ _ => rfl) (by conv => lhs; whnf) (by conv => lhs; whnf) ?_
    have h0 : b.perhapsE = 0 := by unfold HBook.perhapsE HBook.chk; rw [hv]; rfl
    have h1 : b.perhapsV = b.knownFrom b.hanks.length [] := by unfold HBook.perhapsV; rw [hv]; rfl
    exact ⟨by (rw [h0, h1]) <;> rfl, hS.ext⟩
end Go.Proofs.YtofpabocpcfbfaaDoor

/- Walks: T14. -/
namespace Go.Proofs.YtofpabocpcfbfaaDoor
open Go Go.Proofs K

theorem c159 (w : World) (x : Int) : Cv Tryd.prog 159 #[.int .i64 x] w (fun v w' => v = .bool false ∧ Ext no w w') := by
  refine cv_intro Tryd.func159 rfl rfl Tryd.ntmps159 rfl (by kernel_rfl) ?_
  have hS := St.nil w
  refine k_seq ?_
  refine k_region ?_
  refine r_assign (by conv => lhs; whnf) rfl rfl ?_
  refine wpl_nil ?_
  refine thn ?_
  refine k_seq ?_
  refine k_region ?_
  refine r_move (by conv => lhs; whnf) rfl rfl ?_
  refine r_move (by conv => lhs; whnf) rfl rfl ?_
  refine r_neq rfl rfl rfl rfl ?_
  refine r_assign (by conv => lhs; whnf) rfl rfl ?_
  refine wpl_nil ?_
  refine thn ?_
  refine ret1 (fun _ _ _ => rfl) (by conv => lhs; whnf) ?_
  exact ⟨congrArg Value.bool (by simp), hS.ext⟩

theorem c130 (w : World) (x y : Int) : Cv Tryd.prog 130 #[.int .i64 x, .int .i64 y] w (fun v w' => v = .int .i64 (cmpE x y) ∧ Ext no w w') := by
  refine cv_intro Tryd.func130 rfl rfl Tryd.ntmps130 rfl (by kernel_rfl) ?_
  have hS := St.nil w
  refine k_seq ?_
  refine k_region ?_
  refine r_assign (by conv => lhs; whnf) rfl rfl ?_
  refine wpl_nil ?_
  refine thn ?_
  refine k_seq ?_
  refine k_region ?_
  refine r_move (by conv => lhs; whnf) rfl rfl ?_
  refine r_call rfl (c159 _ _) rfl rfl ?_
  rintro _ w1 ⟨rfl, hE⟩
  have hS := hS.step hE
  refine r_assign (by conv => lhs; whnf) rfl rfl ?_
  refine wpl_nil ?_
  refine thn ?_
  refine k_seq ?_
  refine k_region ?_
  refine r_move (by conv => lhs; whnf) rfl rfl ?_
  refine r_call rfl (c159 _ _) rfl rfl ?_
  rintro _ w2 ⟨rfl, hE⟩
  have hS := hS.step hE
  refine r_assign (by conv => lhs; whnf) rfl rfl ?_
  refine wpl_nil ?_
  refine thn ?_
  refine k_seq ?_
  refine k_seq ?_
  refine k_region ?_
  refine r_move (by conv => lhs; whnf) rfl rfl ?_
  refine wpl_nil ?_
  refine thn ?_
  refine k_cond_f rfl ?_
  refine k_skip ?_
  refine thn ?_
  refine k_seq ?_
  refine k_seq ?_
  refine k_region ?_
  refine r_move (by conv => lhs; whnf) rfl rfl ?_
  refine wpl_nil ?_
  refine thn ?_
  refine k_cond_f rfl ?_
  refine k_skip ?_
  refine thn ?_
  refine k_seq ?_
  refine k_seq ?_
  refine k_region ?_
  refine r_move (by conv => lhs; whnf) rfl rfl ?_
  refine r_move (by conv => lhs; whnf) rfl rfl ?_
  refine r_lss rfl rfl rfl rfl ?_
  refine wpl_nil ?_
  refine thn ?_
  refine k_cond rfl (fun hc3 => ?_) (fun hc3 => ?_)
  · -- t
    have hc30 := hc3
    (try simp only [decide_eq_true_eq, decide_eq_false_iff_not, Bool.and_eq_true, Bool.and_eq_false_iff, Bool.not_eq_true', Bool.not_eq_false', Int.not_lt, Int.not_le] at hc3)
    refine k_seq ?_
    refine k_region ?_
    refine r_assign (by conv => lhs; whnf) rfl rfl ?_
    refine wpl_nil ?_
    refine thn ?_
    refine ret1 (fun _ _ _ => rfl) (by conv => lhs; whnf) ?_
    refine ⟨congrArg iv ?_, hS.ext⟩
    unfold cmpE
    (repeat (first | rw [if_pos (by omega)] | rw [if_neg (by omega)]))
  · -- f
    have hc30 := hc3
    (try simp only [decide_eq_true_eq, decide_eq_false_iff_not, Bool.and_eq_true, Bool.and_eq_false_iff, Bool.not_eq_true', Bool.not_eq_false', Int.not_lt, Int.not_le] at hc3)
    refine k_skip ?_
    refine thn ?_
    refine k_seq ?_
    refine k_seq ?_
    refine k_region ?_
    refine r_move (by conv => lhs; whnf) rfl rfl ?_
    refine r_move (by conv => lhs; whnf) rfl rfl ?_
    refine r_gtr rfl rfl rfl rfl ?_
    refine wpl_nil ?_
    refine thn ?_
    refine k_cond rfl (fun hc4 => ?_) (fun hc4 => ?_)
    · -- t
      have hc40 := hc4
      (try simp only [decide_eq_true_eq, decide_eq_false_iff_not, Bool.and_eq_true, Bool.and_eq_false_iff, Bool.not_eq_true', Bool.not_eq_false', Int.not_lt, Int.not_le] at hc4)
      refine k_seq ?_
      refine k_region ?_
      refine r_assign (by conv => lhs; whnf) rfl rfl ?_
      refine wpl_nil ?_
      refine thn ?_
      refine ret1 (fun _ _ _ => rfl) (by conv => lhs; whnf) ?_
      refine ⟨congrArg iv ?_, hS.ext⟩
      unfold cmpE
      (repeat (first | rw [if_pos (by omega)] | rw [if_neg (by omega)]))
    · -- f
      have hc40 := hc4
      (try simp only [decide_eq_true_eq, decide_eq_false_iff_not, Bool.and_eq_true, Bool.and_eq_false_iff, Bool.not_eq_true', Bool.not_eq_false', Int.not_lt, Int.not_le] at hc4)
      refine k_skip ?_
      refine thn ?_
      refine k_seq ?_
      refine k_region ?_
      refine r_assign (by conv => lhs; whnf) rfl rfl ?_
      refine wpl_nil ?_
      refine thn ?_
      refine ret1 (fun _ _ _ => rfl) (by conv => lhs; whnf) ?_
      refine ⟨congrArg iv ?_, hS.ext⟩
      unfold cmpE
      (repeat (first | rw [if_pos (by omega)] | rw [if_neg (by omega)]))

theorem c78 (w : World) (xs ys : List Int) (A A2 : Option Addr) (n c n2 c2 : Nat) (h : RdInts w A n xs) (h2 : RdInts w A2 n2 ys) : Cv Tryd.prog 78 #[.slice A n c, .slice A2 n2 c2] w (fun v w' => v = .int .i64 (cmpL xs ys) ∧ Ext no w w') := by
  refine cv_intro Tryd.func78 rfl rfl Tryd.ntmps78 rfl (by kernel_rfl) ?_
  have hS := St.nil w
  have hl := h.1
  have hlb := h.2.1
  have hl2 := h2.1
  have hlb2 := h2.2.1
  refine k_seq ?_
  refine k_region ?_
  refine r_assign (by conv => lhs; whnf) rfl rfl ?_
  refine wpl_nil ?_
  refine thn ?_
  refine k_seq ?_
  refine k_seq ?_
  refine k_region ?_
  refine r_move (by conv => lhs; whnf) rfl rfl ?_
  refine r_len rfl sl_26 rfl rfl ?_
  refine r_move (by conv => lhs; whnf) rfl rfl ?_
  refine wpl_nil ?_
  refine thn ?_
  refine k_block ?_
  refine k_loop (ι := Nat) [4, 5, 6, 7, 8, 11, 12, 13, 14, 15, 16, 17, 18, 19, 20, 21, 22, 23, 24, 25, 26, 27, 28, 29, 30] (fun k => [(11, .int .i64 (k : Int))]) (fun k w' => k ≤ n ∧ k ≤ n2 ∧ cmpL xs ys = cmpL (xs.drop k) (ys.drop k) ∧ St (bs w) w' []) (fun k => n - k) 0 ⟨rfl, trivial⟩ ⟨Nat.zero_le _, Nat.zero_le _, rfl, hS⟩ ?_
  rintro k j w2 ⟨hk0, hk1, hcm, hS⟩
  refine k_seq ?_
  refine k_region ?_
  refine r_lss rfl rfl rfl rfl ?_
  refine wpl_nil ?_
  refine thn ?_
  refine k_seq ?_
  refine k_cond rfl (fun hc2 => ?_) (fun hc2 => ?_)
  · -- t
    have hc20 := hc2
    (try simp only [decide_eq_true_eq, decide_eq_false_iff_not, Bool.and_eq_true, Bool.and_eq_false_iff, Bool.not_eq_true', Bool.not_eq_false', Int.not_lt, Int.not_le] at hc2)
    have hk : k < n := by omega
    obtain ⟨a, hA, hcl⟩ := h.nat (d := 0) hk
    have hdx := drop_get (xs := xs) (k := k) (by omega)
    refine k_skip ?_
    refine thn ?_
    refine k_seq ?_
    refine k_block ?_
    refine k_seq ?_
    refine k_region ?_
    refine r_move (by conv => lhs; whnf) rfl rfl ?_
    refine r_index (congrArg (fun A => Value.slice A n c) hA) rfl sl_26 (by omega) rfl rfl ?_
    refine r_load rfl (ld_sc ((hcl.ext hS.ext) 0 _ rfl) sc_3) rfl rfl ?_
    refine r_assign (by conv => lhs; whnf) rfl rfl ?_
    refine r_assign (by conv => lhs; whnf) rfl rfl ?_
    refine wpl_nil ?_
    refine thn ?_
    refine k_seq ?_
    refine k_seq ?_
    refine k_region ?_
    refine r_move (by conv => lhs; whnf) rfl rfl ?_
    refine r_move (by conv => lhs; whnf) rfl rfl ?_
    refine r_len rfl sl_26 rfl rfl ?_
    refine r_geq rfl rfl rfl rfl ?_
    refine wpl_nil ?_
    refine thn ?_
    refine k_cond rfl (fun hc5 => ?_) (fun hc5 => ?_)
    · -- t
      have hc50 := hc5
      (try simp only [decide_eq_true_eq, decide_eq_false_iff_not, Bool.and_eq_true, Bool.and_eq_false_iff, Bool.not_eq_true', Bool.not_eq_false', Int.not_lt, Int.not_le] at hc5)
      have hdy : ys.drop k = [] := List.drop_of_length_le (by omega)
      refine k_seq ?_
      refine k_region ?_
      refine r_assign (by conv => lhs; whnf) rfl rfl ?_
      refine wpl_nil ?_
      refine thn ?_
      refine ret1 (fun _ _ _ => rfl) (by conv => lhs; whnf) ?_
      refine ⟨congrArg iv ?_, hS.ext⟩
      rw [hcm, hdx, hdy]
      rfl
    · -- f
      have hc50 := hc5
      (try simp only [decide_eq_true_eq, decide_eq_false_iff_not, Bool.and_eq_true, Bool.and_eq_false_iff, Bool.not_eq_true', Bool.not_eq_false', Int.not_lt, Int.not_le] at hc5)
      have hk2 : k < n2 := by omega
      obtain ⟨a2, hA2, hcl2⟩ := h2.nat (d := 0) hk2
      have hdy := drop_get (xs := ys) (k := k) (by omega)
      refine k_skip ?_
      refine thn ?_
      refine k_seq ?_
      refine k_region ?_
      refine r_move (by conv => lhs; whnf) rfl rfl ?_
      refine r_move (by conv => lhs; whnf) rfl rfl ?_
      refine r_index (congrArg (fun A => Value.slice A n2 c2) hA2) rfl sl_26 (by omega) rfl rfl ?_
      refine r_load rfl (ld_sc ((hcl2.ext hS.ext) 0 _ rfl) sc_3) rfl rfl ?_
      refine r_assign (by conv => lhs; whnf) rfl rfl ?_
      refine wpl_nil ?_
      refine thn ?_
      refine k_seq ?_
      refine k_region ?_
      refine r_move (by conv => lhs; whnf) rfl rfl ?_
      refine r_move (by conv => lhs; whnf) rfl rfl ?_
      refine r_call rfl (c130 _ _ _) rfl rfl ?_
      rintro _ w8 ⟨rfl, hE⟩
      have hS := hS.step hE
      refine r_assign (by conv => lhs; whnf) rfl rfl ?_
      refine wpl_nil ?_
      refine thn ?_
      refine k_seq ?_
      refine k_region ?_
      refine r_move (by conv => lhs; whnf) rfl rfl ?_
      refine r_neq rfl rfl rfl rfl ?_
      refine wpl_nil ?_
      refine thn ?_
      refine k_cond rfl (fun hc9 => ?_) (fun hc9 => ?_)
      · -- t
        skip
        have hcz : ¬ cmpE (xs.getD k 0) (ys.getD k 0) = 0 := by simpa using hc9
        refine k_seq ?_
        refine k_region ?_
        refine r_move (by conv => lhs; whnf) rfl rfl ?_
        refine r_assign (by conv => lhs; whnf) rfl rfl ?_
        refine wpl_nil ?_
        refine thn ?_
        refine ret1 (fun _ _ _ => rfl) (by conv => lhs; whnf) ?_
        refine ⟨congrArg iv ?_, hS.ext⟩
        rw [hcm, hdx, hdy, cmpL_cons, if_neg hcz]
      · -- f
        skip
        have hcz : cmpE (xs.getD k 0) (ys.getD k 0) = 0 := by simpa using hc9
        refine k_skip ?_
        refine blk_n ?_
        refine thn ?_
        refine k_region ?_
        refine r_add rfl rfl rfl rfl (by omega) ?_
        refine r_move (by conv => lhs; whnf) rfl rfl ?_
        refine wpl_nil ?_
        refine thn ?_
        refine ⟨k + 1, ⟨rfl, trivial⟩, ?_, ?_, ?_, rfl⟩
        · refine ⟨by omega, by omega, ?_, hS⟩
          rw [hcm, hdx, hdy, cmpL_cons, if_pos hcz]
        · omega
        · (repeat (first | exact Agree.refl _ _ | exact agree_hv rfl (Agree.refl _ _) | refine agree_upd rfl ?_ | refine agree_mkF rfl ?_ | refine agree_hv rfl ?_))
  · -- f
    have hc20 := hc2
    (try simp only [decide_eq_true_eq, decide_eq_false_iff_not, Bool.and_eq_true, Bool.and_eq_false_iff, Bool.not_eq_true', Bool.not_eq_false', Int.not_lt, Int.not_le] at hc2)
    have hk : k = xs.length := by omega
    have hdx : xs.drop k = [] := List.drop_of_length_le (by omega)
    refine k_exit ?_
    refine thn_e ?_
    refine thn_e ?_
    refine blk_e ?_
    refine thn ?_
    refine k_seq ?_
    refine k_seq ?_
    refine k_region ?_
    refine r_move (by conv => lhs; whnf) rfl rfl ?_
    refine r_len rfl sl_26 rfl rfl ?_
    refine r_move (by conv => lhs; whnf) rfl rfl ?_
    refine r_len rfl sl_26 rfl rfl ?_
    refine r_lss rfl rfl rfl rfl ?_
    refine wpl_nil ?_
    refine thn ?_
    refine k_cond rfl (fun hc10 => ?_) (fun hc10 => ?_)
    · -- t
      have hc100 := hc10
      (try simp only [decide_eq_true_eq, decide_eq_false_iff_not, Bool.and_eq_true, Bool.and_eq_false_iff, Bool.not_eq_true', Bool.not_eq_false', Int.not_lt, Int.not_le] at hc10)
      have hdy := drop_get (xs := ys) (k := k) (by omega)
      refine k_seq ?_
      refine k_region ?_
      refine r_assign (by conv => lhs; whnf) rfl rfl ?_
      refine wpl_nil ?_
      refine thn ?_
      refine ret1 (fun _ _ _ => rfl) (by conv => lhs; whnf) ?_
      refine ⟨congrArg iv ?_, hS.ext⟩
      rw [hcm, hdx, hdy]
      rfl
    · -- f
      have hc100 := hc10
      (try simp only [decide_eq_true_eq, decide_eq_false_iff_not, Bool.and_eq_true, Bool.and_eq_false_iff, Bool.not_eq_true', Bool.not_eq_false', Int.not_lt, Int.not_le] at hc10)
      have hdy : ys.drop k = [] := List.drop_of_length_le (by omega)
      refine k_skip ?_
      refine thn ?_
      refine k_seq ?_
      refine k_region ?_
      refine r_assign (by conv => lhs; whnf) rfl rfl ?_
      refine wpl_nil ?_
      refine thn ?_
      refine ret1 (fun _ _ _ => rfl) (by conv => lhs; whnf) ?_
      refine ⟨congrArg iv ?_, hS.ext⟩
      rw [hcm, hdx, hdy]
      rfl
end Go.Proofs.YtofpabocpcfbfaaDoor

/- Walks: T15. -/
namespace Go.Proofs.YtofpabocpcfbfaaDoor
open Go Go.Proofs K

theorem c27 (w : World) (b : HBook) (A1 A2 : Option Addr) (n1 c1 n2 c2 : Nat) (h1 : RdRow Hank.enc 4 w A1 n1 b.hanks) (h2 : RdRow Horse.enc 3 w A2 n2 b.horses) (hP : Parts w) : Cv Tryd.prog 27 #[.agg #[.slice A1 n1 c1, .slice A2 n2 c2, .int .i64 b.dark, .int .i64 b.near, .int .i64 b.mat]] w (fun v w' => ∃ a c, v = .tuple #[.slice a b.lacksV.length c, .int .i64 b.chk] ∧ Ext no w w' ∧ RdInts w' a b.lacksV.length b.lacksV ∧ (∀ k, (lst a b.lacksV.length b.lacksV).fp k → w.heap.size ≤ k ∧ k < w'.heap.size)) := by
  refine cv_intro Tryd.func27 rfl rfl Tryd.ntmps27 rfl (by kernel_rfl) ?_
  have hS := St.nil w
  have hl1 := h1.1
  have hl2 := h2.1
  refine k_seq ?_
  refine k_region ?_
  refine r_boxa hS rfl rfl rfl ?_
  intro b1 w1 hS hE hB1
  refine r_assign (by conv => lhs; whnf) rfl rfl ?_
  refine r_assign (by conv => lhs; whnf) rfl rfl ?_
  refine wpl_nil ?_
  refine thn ?_
  refine k_seq ?_
  refine k_seq ?_
  refine k_region ?_
  refine r_load rfl (ld_ba hS (i := 0) rfl rfl rfl ag_25) rfl rfl ?_
  refine r_call rfl (c46 _ b A1 A2 n1 c1 n2 c2 (h1.ext hS.ext) (h2.ext hS.ext)) rfl rfl ?_
  rintro _ w2 ⟨rfl, hE⟩
  have hS := hS.step hE
  refine r_assign (by conv => lhs; whnf) rfl rfl ?_
  refine wpl_nil ?_
  refine thn ?_
  refine k_seq ?_
  refine k_region ?_
  refine r_move (by conv => lhs; whnf) rfl rfl ?_
  refine r_neq rfl rfl rfl rfl ?_
  refine wpl_nil ?_
  refine thn ?_
  refine k_cond rfl (fun hc3 => ?_) (fun hc3 => ?_)
  · -- t
    have hc30 := hc3
    (try simp only [decide_eq_true_eq, decide_eq_false_iff_not, Bool.and_eq_true, Bool.and_eq_false_iff, Bool.not_eq_true', Bool.not_eq_false', Int.not_lt, Int.not_le] at hc3)
    have hv : b.valid = false := by cases h : b.valid with | false => rfl | true => exact absurd (show b.chk = 0 by unfold HBook.chk; rw [h]; rfl) hc3
    refine k_seq ?_
    refine k_region ?_
    refine r_move (by conv => lhs; whnf) rfl rfl ?_
    refine r_assign (by conv => lhs; whnf) rfl rfl ?_
    refine r_assign (by conv => lhs; whnf) rfl rfl ?_
    refine wpl_nil ?_
    refine thn ?_
    refine ret2 (fun _ _ _ => rfl) (by conv => lhs; whnf) (by conv => lhs; whnf) ?_
    have h1 : b.lacksV = [] := by unfold HBook.lacksV; rw [hv]; rfl
    refine ⟨none, 0, ?_, hS.ext, ?_, lst_nil⟩
    · rw [h1]; rfl
    · rw [h1]; exact rd_nil
  · -- f
    have hc30 := hc3
    (try simp only [decide_eq_true_eq, decide_eq_false_iff_not, Bool.and_eq_true, Bool.and_eq_false_iff, Bool.not_eq_true', Bool.not_eq_false', Int.not_lt, Int.not_le] at hc3)
    have hv : b.valid = true := by cases h : b.valid with | true => rfl | false => rw [show b.chk = 60 by unfold HBook.chk; rw [h]; rfl] at hc3; exact absurd hc3 (by decide)
    have hg := (GoodB.of_valid hv).1
    have hg2 := hg.l2
    refine k_skip ?_
    refine thn ?_
    refine k_seq ?_
    refine k_region ?_
    refine r_assign (by conv => lhs; whnf) rfl rfl ?_
    refine wpl_nil ?_
    refine thn ?_
    refine k_seq ?_
    refine k_region ?_
    refine r_assign (by conv => lhs; whnf) rfl rfl ?_
    refine wpl_nil ?_
    refine thn ?_
    refine k_seq ?_
    refine k_seq ?_
    refine k_region ?_
    refine r_field rfl fl_25_1 rfl rfl ?_
    refine r_load rfl (ld_bs hS (i := 0) rfl rfl sc_23) rfl rfl ?_
    refine r_len rfl sl_23 rfl rfl ?_
    refine r_shl1 rfl rfl (by omega) rfl rfl ?_
    refine r_move (by conv => lhs; whnf) rfl rfl ?_
    refine wpl_nil ?_
    refine thn ?_
    refine k_block ?_
    refine k_loop (ι := Nat × Option Addr × Nat) [5, 6, 7, 8, 9, 10, 11, 21, 22, 23, 24, 25, 26, 27, 28, 29, 30, 31, 32, 33, 34, 35, 36, 37, 38, 39, 40, 41, 42, 43, 44, 45, 46, 47, 48, 49, 50, 51, 52, 53, 54, 55, 56, 57, 58, 59, 60, 61, 62, 63, 64, 65, 66, 67, 68, 69, 70, 71, 72, 73, 74, 75] (fun i => [(5, .slice i.2.1 (b.lackTo i.1).1.length i.2.2), (6, .bool (b.lackTo i.1).2), (21, .int .i64 (i.1 : Int))]) (fun i w' => i.1 ≤ 2 ^ n2 ∧ St (bs w) w' [box b1 25 [.slice A1 n1 c1, .slice A2 n2 c2, .int .i64 b.dark, .int .i64 b.near, .int .i64 b.mat], row 3 1 i.2.1 (b.lackTo i.1).1.length i.2.2 ((b.lackTo i.1).1.map iv)]) (fun i => 2 ^ n2 - i.1) (0, none, 0) ⟨rfl, rfl, rfl, trivial⟩ ⟨Nat.zero_le _, row_nil hS⟩ ?_
    rintro ⟨set, aB, cB⟩ j w2 ⟨hk0, hS⟩
    dsimp only at hk0 hS
    show WP _ _ _ _ _ (mkF _ [(5, .slice aB (b.lackTo set).1.length cB), (6, .bool (b.lackTo set).2), (21, .int .i64 (set : Int))]) _ _
    refine k_seq ?_
    refine k_region ?_
    refine r_lss rfl rfl rfl rfl ?_
    refine wpl_nil ?_
    refine thn ?_
    refine k_seq ?_
    refine k_cond rfl (fun hc6 => ?_) (fun hc6 => ?_)
    · -- t
      have hc60 := hc6
      (try simp only [decide_eq_true_eq, decide_eq_false_iff_not, Bool.and_eq_true, Bool.and_eq_false_iff, Bool.not_eq_true', Bool.not_eq_false', Int.not_lt, Int.not_le] at hc6)
      have hlt : set < 2 ^ n2 := by omega
      have h2p : 2 ^ n2 ≤ 8 := Nat.le_trans (Nat.pow_le_pow_right (by decide) (by omega : n2 ≤ 3)) (by decide)
      refine k_skip ?_
      refine thn ?_
      refine k_seq ?_
      refine k_block ?_
      refine k_seq ?_
      refine k_region ?_
      refine r_move (by conv => lhs; whnf) rfl rfl ?_
      refine r_assign (by conv => lhs; whnf) rfl rfl ?_
      refine wpl_nil ?_
      refine thn ?_
      refine k_seq ?_
      refine k_region ?_
      refine r_load rfl (ld_ba hS (i := 0) rfl rfl rfl ag_25) rfl rfl ?_
      refine r_alloc hS z_25 rfl rfl rfl ?_
      intro b8 w7 hS hE hB8
      refine r_storea hS (i := 2) rfl rfl rfl sz_25 rfl rfl rfl ?_
      intro w8 hS hE
      refine wpl_nil ?_
      refine thn ?_
      refine k_seq ?_
      (try simp only [List.nil_append, List.cons_append, List.set_cons_zero, List.set_cons_succ] at hS)
      refine k_region ?_
      refine r_field rfl fl_25_1 rfl rfl ?_
      refine r_store1 hS (i := 2) rfl (by conv => lhs; whnf) rfl rfl sz_23 rfl rfl rfl ?_
      intro w9 hS hE
      refine wpl_nil ?_
      refine thn ?_
      refine k_seq ?_
      (try simp only [List.nil_append, List.cons_append, List.set_cons_zero, List.set_cons_succ] at hS)
      refine k_region ?_
      refine r_assign (by conv => lhs; whnf) rfl rfl ?_
      refine wpl_nil ?_
      refine thn ?_
      refine k_seq ?_
      refine k_seq ?_
      (try simp only [List.nil_append, List.cons_append, List.set_cons_zero, List.set_cons_succ] at hS)
      refine k_region ?_
      refine r_field rfl fl_25_1 rfl rfl ?_
      refine r_load rfl (ld_bs hS (i := 0) rfl rfl sc_23) rfl rfl ?_
      refine r_len rfl sl_23 rfl rfl ?_
      refine r_move (by conv => lhs; whnf) rfl rfl ?_
      refine wpl_nil ?_
      refine thn ?_
      refine k_block ?_
      refine k_loop (ι := Nat × Option Addr × Nat × Option Addr × Nat) [9, 10, 11, 29, 30, 31, 32, 33, 34, 35, 36, 37, 38, 39, 40, 41, 42, 43, 44, 45, 46, 47, 48, 49] (fun i => [(9, .slice i.2.1 (outTo set i.1).length i.2.2.1), (29, .int .i64 (i.1 : Int))]) (fun i w' => i.1 ≤ n2 ∧ St (bs w) w' [box b1 25 [.slice A1 n1 c1, .slice A2 n2 c2, .int .i64 b.dark, .int .i64 b.near, .int .i64 b.mat], row 3 1 aB (b.lackTo set).1.length cB ((b.lackTo set).1.map iv), box b8 25 [.slice A1 n1 c1, .slice i.2.2.2.1 (restTo b.horses set i.1).length i.2.2.2.2, .int .i64 b.dark, .int .i64 b.near, .int .i64 b.mat], row 3 1 i.2.1 (outTo set i.1).length i.2.2.1 ((outTo set i.1).map iv), row 65 3 i.2.2.2.1 (restTo b.horses set i.1).length i.2.2.2.2 ((restTo b.horses set i.1).flatMap Horse.enc)]) (fun i => n2 - i.1) (0, none, 0, none, 0) ⟨rfl, rfl, trivial⟩ ⟨Nat.zero_le _, row_nil (row_nil hS)⟩ ?_
      rintro ⟨k, aO, cO, aH, cH⟩ j3 w3 ⟨hk1, hS⟩
      dsimp only at hk1 hS
      show WP _ _ _ _ _ (mkF _ [(9, .slice aO (outTo set k).length cO), (29, .int .i64 (k : Int))]) _ _
      refine k_seq ?_
      (try simp only [List.nil_append, List.cons_append, List.set_cons_zero, List.set_cons_succ] at hS)
      refine k_region ?_
      refine r_lss rfl rfl rfl rfl ?_
      refine wpl_nil ?_
      refine thn ?_
      refine k_seq ?_
      refine k_cond rfl (fun hc11 => ?_) (fun hc11 => ?_)
      · -- t
        have hc110 := hc11
        (try simp only [decide_eq_true_eq, decide_eq_false_iff_not, Bool.and_eq_true, Bool.and_eq_false_iff, Bool.not_eq_true', Bool.not_eq_false', Int.not_lt, Int.not_le] at hc11)
        have hk : k < n2 := by omega
        obtain ⟨a2, hA2, hc2⟩ := h2.nat (d := Horse0) hk
        refine k_skip ?_
        refine thn ?_
        refine k_seq ?_
        refine k_block ?_
        refine k_seq ?_
        (try simp only [List.nil_append, List.cons_append, List.set_cons_zero, List.set_cons_succ] at hS)
        refine k_region ?_
        refine r_move (by conv => lhs; whnf) rfl rfl ?_
        refine r_index (congrArg (fun A => Value.slice A n2 c2) hA2) rfl sl_23 (by omega) rfl rfl ?_
        refine r_load rfl (ld_ag (hc2.ext hS.ext) ag_65 rfl) rfl rfl ?_
        refine r_alloc hS z_65 rfl rfl rfl ?_
        intro b11 w14 hS hE hB11
        refine r_assign (by conv => lhs; whnf) rfl rfl ?_
        refine r_storea hS (i := 5) rfl rfl rfl sz_65 rfl rfl rfl ?_
        intro w15 hS hE
        refine wpl_nil ?_
        refine thn ?_
        refine k_seq ?_
        (try simp only [List.nil_append, List.cons_append, List.set_cons_zero, List.set_cons_succ] at hS)
        refine k_region ?_
        refine r_move (by conv => lhs; whnf) rfl rfl ?_
        refine r_move (by conv => lhs; whnf) rfl rfl ?_
        refine r_shrn (a := set) (n := k) rfl rfl (by omega) rfl rfl ?_
        refine r_and1 (a := set / 2 ^ k) rfl rfl (Nat.lt_of_le_of_lt (Nat.div_le_self _ _) (by omega)) rfl rfl ?_
        refine r_eql rfl rfl rfl rfl ?_
        refine wpl_nil ?_
        refine thn ?_
        refine k_cond rfl (fun hc18 => ?_) (fun hc18 => ?_)
        · -- t
          have hc180 := hc18
          (try simp only [decide_eq_true_eq, decide_eq_false_iff_not, Bool.and_eq_true, Bool.and_eq_false_iff, Bool.not_eq_true', Bool.not_eq_false', Int.not_lt, Int.not_le] at hc18)
          have hbit : bitB set k = true := by unfold bitB; simp only [beq_iff_eq]; omega
          have hol : (outTo set (k + 1)).length = (outTo set k).length + 1 := by rw [outTo_succ, hbit]; simp
          have hom : (outTo set (k + 1)).map iv = (outTo set k).map iv ++ [.int .i64 (k : Int)] := by rw [outTo_succ, hbit]; simp
          have hrl : (restTo b.horses set (k + 1)).length = (restTo b.horses set k).length := by rw [restTo_succ, hbit]; rfl
          have hrm : (restTo b.horses set (k + 1)).flatMap Horse.enc = (restTo b.horses set k).flatMap Horse.enc := by rw [restTo_succ, hbit]; rfl
          (try simp only [List.nil_append, List.cons_append, List.set_cons_zero, List.set_cons_succ] at hS)
          refine k_region ?_
          refine r_move (by conv => lhs; whnf) rfl rfl ?_
          refine r_move (by conv => lhs; whnf) rfl rfl ?_
          refine r_buildSlice hS us_26 sz_3 z_3 rfl rfl rfl rfl rfl ?_
          intro b41 w19 hS hE hB41
          refine r_append (vs := [.int .i64 (k : Int)]) hS rfl rfl (i := 3) rfl us_26 us_26 sz_3 by_3 z_3 rfl (show Src _ (some _) _ from box_cells (hS.get (i := 6) rfl) 0) rfl rfl (by have := outTo_len (set := set) (k := k); omega) rfl rfl rfl ?_
          intro aO2 cO2 w21 hS hE
          refine r_assign (by conv => lhs; whnf) rfl rfl ?_
          refine wpl_nil ?_
          refine blk_n ?_
          refine thn ?_
          (try simp only [List.nil_append, List.cons_append, List.set_cons_zero, List.set_cons_succ] at hS)
          refine k_region ?_
          refine r_add rfl rfl rfl rfl (by omega) ?_
          refine r_move (by conv => lhs; whnf) rfl rfl ?_
          refine wpl_nil ?_
          refine thn ?_
          refine ⟨(k + 1, aO2, cO2, aH, cH), ⟨(by show _ = Value.slice aO2 (outTo set (k + 1)).length cO2; rw [hol]; rfl), rfl, trivial⟩, ?_, ?_, ?_, rfl⟩
          · refine ⟨by dsimp only; omega, ?_⟩
            dsimp only
            rw [hol, hom, hrl, hrm]
            exact hS.take 5
          · dsimp only; omega
          · (repeat (first | exact Agree.refl _ _ | exact agree_hv rfl (Agree.refl _ _) | refine agree_upd rfl ?_ | refine agree_mkF rfl ?_ | refine agree_hv rfl ?_))
        · -- f
          have hc180 := hc18
          (try simp only [decide_eq_true_eq, decide_eq_false_iff_not, Bool.and_eq_true, Bool.and_eq_false_iff, Bool.not_eq_true', Bool.not_eq_false', Int.not_lt, Int.not_le] at hc18)
          have hbit : bitB set k = false := by unfold bitB; simp only [beq_eq_false_iff_ne]; omega
          have hol : (outTo set (k + 1)).length = (outTo set k).length := by rw [outTo_succ, hbit]; rfl
          have hom : (outTo set (k + 1)).map iv = (outTo set k).map iv := by rw [outTo_succ, hbit]; rfl
          have hrl : (restTo b.horses set (k + 1)).length = (restTo b.horses set k).length + 1 := by rw [restTo_succ, hbit]; simp
          have hrm : (restTo b.horses set (k + 1)).flatMap Horse.enc = (restTo b.horses set k).flatMap Horse.enc ++ (b.horses.getD k Horse0).enc := by rw [restTo_succ, hbit]; simp
          (try simp only [List.nil_append, List.cons_append, List.set_cons_zero, List.set_cons_succ] at hS)
          refine k_region ?_
          refine r_field rfl fl_25_1 rfl rfl ?_
          refine r_load rfl (ld_bs hS (i := 2) rfl rfl sc_23) rfl rfl ?_
          refine r_load rfl (ld_ba hS (i := 5) rfl rfl rfl ag_65) rfl rfl ?_
          refine r_buildSlice hS us_23 sz_65 z_65 rfl rfl rfl rfl rfl ?_
          intro b46 w22 hS hE hB46
          refine r_append (vs := (b.horses.getD k Horse0).enc) hS rfl rfl (i := 4) rfl us_23 us_23 sz_65 by_65 z_65 rfl (show Src _ (some _) _ from box_cells (hS.get (i := 6) rfl) 0) rfl rfl (by have := restTo_len (hs := b.horses) (set := set) (k := k); omega) rfl rfl rfl ?_
          intro aH2 cH2 w24 hS hE
          refine r_field rfl fl_25_1 rfl rfl ?_
          refine r_store1 hS (i := 2) rfl (by conv => lhs; whnf) rfl rfl sz_23 rfl rfl rfl ?_
          intro w25 hS hE
          refine wpl_nil ?_
          refine blk_n ?_
          refine thn ?_
          (try simp only [List.nil_append, List.cons_append, List.set_cons_zero, List.set_cons_succ] at hS)
          refine k_region ?_
          refine r_add rfl rfl rfl rfl (by omega) ?_
          refine r_move (by conv => lhs; whnf) rfl rfl ?_
          refine wpl_nil ?_
          refine thn ?_
          refine ⟨(k + 1, aO, cO, aH2, cH2), ⟨(by show _ = Value.slice aO (outTo set (k + 1)).length cO; rw [hol]; rfl), rfl, trivial⟩, ?_, ?_, ?_, rfl⟩
          · refine ⟨by dsimp only; omega, ?_⟩
            dsimp only
            rw [hol, hom, hrl, hrm]
            exact hS.take 5
          · dsimp only; omega
          · (repeat (first | exact Agree.refl _ _ | exact agree_hv rfl (Agree.refl _ _) | refine agree_upd rfl ?_ | refine agree_mkF rfl ?_ | refine agree_hv rfl ?_))
      · -- f
        have hc110 := hc11
        (try simp only [decide_eq_true_eq, decide_eq_false_iff_not, Bool.and_eq_true, Bool.and_eq_false_iff, Bool.not_eq_true', Bool.not_eq_false', Int.not_lt, Int.not_le] at hc11)
        have hkn : k = b.horses.length := by omega
        have hol3 := outTo_len (set := set) (k := k)
        have hrl3 := restTo_len (hs := b.horses) (set := set) (k := k)
        have hll3 := lackTo_len (b := b) (n := set)
        refine k_exit ?_
        refine thn_e ?_
        refine thn_e ?_
        refine blk_e ?_
        refine thn ?_
        refine k_seq ?_
        refine k_seq ?_
        (try simp only [List.nil_append, List.cons_append, List.set_cons_zero, List.set_cons_succ] at hS)
        refine k_region ?_
        refine r_move (by conv => lhs; whnf) rfl rfl ?_
        refine r_moveb rfl rfl rfl (fun hb26 => ?_) (fun hb26 => ?_)
        · -- True
          have hq1 := hb26
          refine r_move (by conv => lhs; whnf) rfl rfl ?_
          refine r_len rfl sl_26 rfl rfl ?_
          refine r_move (by conv => lhs; whnf) rfl rfl ?_
          refine r_len rfl sl_26 rfl rfl ?_
          refine r_gtr rfl rfl rfl rfl ?_
          refine r_moveb rfl rfl rfl (fun hb27 => ?_) (fun hb27 => ?_)
          · -- True
            have hq2 := hb27
            refine r_skip rfl rfl ?_
            refine r_skip rfl rfl ?_
            refine r_skip rfl rfl ?_
            refine r_skip rfl rfl ?_
            refine r_skip rfl rfl ?_
            refine r_skip rfl rfl ?_
            refine r_skip rfl rfl ?_
            refine r_skip rfl rfl ?_
            refine r_skip rfl rfl ?_
            refine r_skip rfl rfl ?_
            refine r_skip rfl rfl ?_
            refine r_pick_t rfl (by conv => lhs; whnf) rfl rfl ?_
            refine r_pick_t rfl (by conv => lhs; whnf) rfl rfl ?_
            refine wpl_nil ?_
            refine thn ?_
            refine k_cond_t rfl ?_
            refine k_exit ?_
            refine thn_e ?_
            refine blk_e ?_
            refine thn ?_
            (try simp only [List.nil_append, List.cons_append, List.set_cons_zero, List.set_cons_succ] at hS)
            refine k_region ?_
            refine r_add rfl rfl rfl rfl (by omega) ?_
            refine r_move (by conv => lhs; whnf) rfl rfl ?_
            refine wpl_nil ?_
            refine thn ?_
            have hcnd : ((b.lackTo set).2 && (decide ((b.lackTo set).1.length < (outTo set b.horses.length).length) || (decide ((outTo set b.horses.length).length = (b.lackTo set).1.length) && decide (0 ≤ cmpL (outTo set b.horses.length) (b.lackTo set).1)))) = true := by rw [← hkn]; rw [show (b.lackTo set).2 = true from hq1, Bool.true_and, Bool.or_eq_true]; first | (left; simp only [decide_eq_true_eq] at hq2; exact decide_eq_true (by omega)) | (right; rw [Bool.and_eq_true]; simp only [decide_eq_true_eq] at hq3 hca; exact ⟨decide_eq_true (by omega), decide_eq_true hca⟩)
            have hst : b.lackTo (set + 1) = b.lackTo set := by rw [HBook.lackTo_succ]; unfold HBook.lackStep; simp only [hcnd]; rfl
            refine ⟨(set + 1, aB, cB), ⟨(by show _ = Value.slice aB (b.lackTo (set + 1)).1.length cB; rw [hst]; rfl), (by show _ = Value.bool (b.lackTo (set + 1)).2; rw [hst]; rfl), rfl, trivial⟩, ?_, ?_, ?_, rfl⟩
            · refine ⟨by dsimp only; omega, ?_⟩
              dsimp only
              rw [hst]
              exact hS.pick2 (i := 0) (j := 1) rfl rfl (by decide)
            · dsimp only; omega
            · (repeat (first | exact Agree.refl _ _ | exact agree_hv rfl (Agree.refl _ _) | refine agree_upd rfl ?_ | refine agree_mkF rfl ?_ | refine agree_hv rfl ?_))
          · -- False
            have hq2 := hb27
            refine r_move (by conv => lhs; whnf) rfl rfl ?_
            refine r_len rfl sl_26 rfl rfl ?_
            refine r_move (by conv => lhs; whnf) rfl rfl ?_
            refine r_len rfl sl_26 rfl rfl ?_
            refine r_eql rfl rfl rfl rfl ?_
            refine r_moveb rfl rfl rfl (fun hb28 => ?_) (fun hb28 => ?_)
            · -- True
              have hq3 := hb28
              refine r_move (by conv => lhs; whnf) rfl rfl ?_
              refine r_move (by conv => lhs; whnf) rfl rfl ?_
              refine r_call rfl (c78 _ (outTo set k) (b.lackTo set).1 aO aB _ _ _ _ (row_rd (hS.get (i := 3) rfl) (by omega)) (row_rd (hS.get (i := 1) rfl) (by omega))) rfl rfl ?_
              rintro _ w29 ⟨rfl, hE⟩
              have hS := hS.step hE
              refine r_geq rfl rfl rfl rfl ?_
              refine r_pick_t rfl (by conv => lhs; whnf) rfl rfl ?_
              refine r_pick_f rfl (by conv => lhs; whnf) rfl rfl ?_
              refine r_pick_t rfl (by conv => lhs; whnf) rfl rfl ?_
              refine wpl_nil ?_
              refine thn ?_
              refine k_cond rfl (fun hc30 => ?_) (fun hc30 => ?_)
              · -- t
                have hca := hc30
                refine k_exit ?_
                refine thn_e ?_
                refine blk_e ?_
                refine thn ?_
                (try simp only [List.nil_append, List.cons_append, List.set_cons_zero, List.set_cons_succ] at hS)
                refine k_region ?_
                refine r_add rfl rfl rfl rfl (by omega) ?_
                refine r_move (by conv => lhs; whnf) rfl rfl ?_
                refine wpl_nil ?_
                refine thn ?_
                have hcnd : ((b.lackTo set).2 && (decide ((b.lackTo set).1.length < (outTo set b.horses.length).length) || (decide ((outTo set b.horses.length).length = (b.lackTo set).1.length) && decide (0 ≤ cmpL (outTo set b.horses.length) (b.lackTo set).1)))) = true := by rw [← hkn]; rw [show (b.lackTo set).2 = true from hq1, Bool.true_and, Bool.or_eq_true]; first | (left; simp only [decide_eq_true_eq] at hq2; exact decide_eq_true (by omega)) | (right; rw [Bool.and_eq_true]; simp only [decide_eq_true_eq] at hq3 hca; exact ⟨decide_eq_true (by omega), decide_eq_true hca⟩)
                have hst : b.lackTo (set + 1) = b.lackTo set := by rw [HBook.lackTo_succ]; unfold HBook.lackStep; simp only [hcnd]; rfl
                refine ⟨(set + 1, aB, cB), ⟨(by show _ = Value.slice aB (b.lackTo (set + 1)).1.length cB; rw [hst]; rfl), (by show _ = Value.bool (b.lackTo (set + 1)).2; rw [hst]; rfl), rfl, trivial⟩, ?_, ?_, ?_, rfl⟩
                · refine ⟨by dsimp only; omega, ?_⟩
                  dsimp only
                  rw [hst]
                  exact hS.pick2 (i := 0) (j := 1) rfl rfl (by decide)
                · dsimp only; omega
                · (repeat (first | exact Agree.refl _ _ | exact agree_hv rfl (Agree.refl _ _) | refine agree_upd rfl ?_ | refine agree_mkF rfl ?_ | refine agree_hv rfl ?_))
              · -- f
                have hca := hc30
                refine k_skip ?_
                refine thn ?_
                refine k_seq ?_
                (try simp only [List.nil_append, List.cons_append, List.set_cons_zero, List.set_cons_succ] at hS)
                refine k_region ?_
                have hcnd : ((b.lackTo set).2 && (decide ((b.lackTo set).1.length < (outTo set b.horses.length).length) || (decide ((outTo set b.horses.length).length = (b.lackTo set).1.length) && decide (0 ≤ cmpL (outTo set b.horses.length) (b.lackTo set).1)))) = false := by rw [← hkn]; first | (rw [show (b.lackTo set).2 = false from hq1]; rfl) | (simp only [decide_eq_true_eq, decide_eq_false_iff_not] at hq2 hq3; rw [Bool.and_eq_false_iff]; right; rw [Bool.or_eq_false_iff]; refine ⟨decide_eq_false (by omega), ?_⟩; rw [Bool.and_eq_false_iff]; first | (left; exact decide_eq_false (by omega)) | (right; simp only [decide_eq_false_iff_not] at hca; exact decide_eq_false hca))
                refine r_load rfl (ld_ba hS (i := 2) rfl rfl rfl ag_25) rfl rfl ?_
                refine r_call rfl (c76 _ (b.horsesOf (restTo b.horses set k)) A1 aH n1 c1 (restTo b.horses set k).length cH (h1.ext hS.ext) (row_rdrow senc_len (hS.get (i := 4) rfl) rfl (by show (restTo b.horses set k).length ≤ 1000; omega)) (rest_good hg (by omega)) (hP.ext hS.ext)) rfl rfl ?_
                rintro _ w31 ⟨m, rfl, hE, hB0, hm0⟩
                have hS := hS.step hE
                refine r_call rfl (c79 _ (b.horsesOf (restTo b.horses set k)) A1 aH n1 c1 (restTo b.horses set k).length cH m hB0) rfl rfl ?_
                rintro _ w32 ⟨rfl, hE⟩
                have hS := hS.step hE
                refine wpl_nil ?_
                refine thn ?_
                refine k_cond rfl (fun hc33 => ?_) (fun hc33 => ?_)
                · -- t
                  have hsv := hc33
                  (try simp only [List.nil_append, List.cons_append, List.set_cons_zero, List.set_cons_succ] at hS)
                  refine k_region ?_
                  refine r_move (by conv => lhs; whnf) rfl rfl ?_
                  refine r_assign (by conv => lhs; whnf) rfl rfl ?_
                  refine r_assign (by conv => lhs; whnf) rfl rfl ?_
                  refine wpl_nil ?_
                  refine blk_n ?_
                  refine thn ?_
                  (try simp only [List.nil_append, List.cons_append, List.set_cons_zero, List.set_cons_succ] at hS)
                  refine k_region ?_
                  refine r_add rfl rfl rfl rfl (by omega) ?_
                  refine r_move (by conv => lhs; whnf) rfl rfl ?_
                  refine wpl_nil ?_
                  refine thn ?_
                  have hst : b.lackTo (set + 1) = (outTo set b.horses.length, true) := by rw [HBook.lackTo_succ]; unfold HBook.lackStep; simp only [hcnd]; rw [hkn] at hsv; rw [hsv]; rfl
                  refine ⟨(set + 1, aO, cO), ⟨(by show _ = Value.slice aO (b.lackTo (set + 1)).1.length cO; rw [hst, ← hkn]; rfl), (by show _ = Value.bool (b.lackTo (set + 1)).2; rw [hst]; rfl), rfl, trivial⟩, ?_, ?_, ?_, rfl⟩
                  · refine ⟨by dsimp only; omega, ?_⟩
                    dsimp only
                    rw [hst]
                    rw [hkn] at hS
                    exact hS.pick2 (i := 0) (j := 3) rfl rfl (by decide)
                  · dsimp only; omega
                  · (repeat (first | exact Agree.refl _ _ | exact agree_hv rfl (Agree.refl _ _) | refine agree_upd rfl ?_ | refine agree_mkF rfl ?_ | refine agree_hv rfl ?_))
                · -- f
                  have hsv := hc33
                  refine k_skip ?_
                  refine blk_n ?_
                  refine thn ?_
                  (try simp only [List.nil_append, List.cons_append, List.set_cons_zero, List.set_cons_succ] at hS)
                  refine k_region ?_
                  refine r_add rfl rfl rfl rfl (by omega) ?_
                  refine r_move (by conv => lhs; whnf) rfl rfl ?_
                  refine wpl_nil ?_
                  refine thn ?_
                  have hst : b.lackTo (set + 1) = b.lackTo set := by rw [HBook.lackTo_succ]; unfold HBook.lackStep; simp only [hcnd]; rw [hkn] at hsv; rw [hsv]; rfl
                  refine ⟨(set + 1, aB, cB), ⟨(by show _ = Value.slice aB (b.lackTo (set + 1)).1.length cB; rw [hst]; rfl), (by show _ = Value.bool (b.lackTo (set + 1)).2; rw [hst]; rfl), rfl, trivial⟩, ?_, ?_, ?_, rfl⟩
                  · refine ⟨by dsimp only; omega, ?_⟩
                    dsimp only
                    rw [hst]
                    exact hS.pick2 (i := 0) (j := 1) rfl rfl (by decide)
                  · dsimp only; omega
                  · (repeat (first | exact Agree.refl _ _ | exact agree_hv rfl (Agree.refl _ _) | refine agree_upd rfl ?_ | refine agree_mkF rfl ?_ | refine agree_hv rfl ?_))
            · -- False
              have hq3 := hb28
              refine r_skip rfl rfl ?_
              refine r_skip rfl rfl ?_
              refine r_skip rfl rfl ?_
              refine r_skip rfl rfl ?_
              refine r_pick_f rfl (by conv => lhs; whnf) rfl rfl ?_
              refine r_pick_f rfl (by conv => lhs; whnf) rfl rfl ?_
              refine r_pick_t rfl (by conv => lhs; whnf) rfl rfl ?_
              refine wpl_nil ?_
              refine thn ?_
              refine k_cond_f rfl ?_
              refine k_skip ?_
              refine thn ?_
              refine k_seq ?_
              (try simp only [List.nil_append, List.cons_append, List.set_cons_zero, List.set_cons_succ] at hS)
              refine k_region ?_
              have hcnd : ((b.lackTo set).2 && (decide ((b.lackTo set).1.length < (outTo set b.horses.length).length) || (decide ((outTo set b.horses.length).length = (b.lackTo set).1.length) && decide (0 ≤ cmpL (outTo set b.horses.length) (b.lackTo set).1)))) = false := by rw [← hkn]; first | (rw [show (b.lackTo set).2 = false from hq1]; rfl) | (simp only [decide_eq_true_eq, decide_eq_false_iff_not] at hq2 hq3; rw [Bool.and_eq_false_iff]; right; rw [Bool.or_eq_false_iff]; refine ⟨decide_eq_false (by omega), ?_⟩; rw [Bool.and_eq_false_iff]; first | (left; exact decide_eq_false (by omega)) | (right; simp only [decide_eq_false_iff_not] at hca; exact decide_eq_false hca))
              refine r_load rfl (ld_ba hS (i := 2) rfl rfl rfl ag_25) rfl rfl ?_
              refine r_call rfl (c76 _ (b.horsesOf (restTo b.horses set k)) A1 aH n1 c1 (restTo b.horses set k).length cH (h1.ext hS.ext) (row_rdrow senc_len (hS.get (i := 4) rfl) rfl (by show (restTo b.horses set k).length ≤ 1000; omega)) (rest_good hg (by omega)) (hP.ext hS.ext)) rfl rfl ?_
              rintro _ w34 ⟨m, rfl, hE, hB0, hm0⟩
              have hS := hS.step hE
              refine r_call rfl (c79 _ (b.horsesOf (restTo b.horses set k)) A1 aH n1 c1 (restTo b.horses set k).length cH m hB0) rfl rfl ?_
              rintro _ w35 ⟨rfl, hE⟩
              have hS := hS.step hE
              refine wpl_nil ?_
              refine thn ?_
              refine k_cond rfl (fun hc36 => ?_) (fun hc36 => ?_)
              · -- t
                have hsv := hc36
                (try simp only [List.nil_append, List.cons_append, List.set_cons_zero, List.set_cons_succ] at hS)
                refine k_region ?_
                refine r_move (by conv => lhs; whnf) rfl rfl ?_
                refine r_assign (by conv => lhs; whnf) rfl rfl ?_
                refine r_assign (by conv => lhs; whnf) rfl rfl ?_
                refine wpl_nil ?_
                refine blk_n ?_
                refine thn ?_
                (try simp only [List.nil_append, List.cons_append, List.set_cons_zero, List.set_cons_succ] at hS)
                refine k_region ?_
                refine r_add rfl rfl rfl rfl (by omega) ?_
                refine r_move (by conv => lhs; whnf) rfl rfl ?_
                refine wpl_nil ?_
                refine thn ?_
                have hst : b.lackTo (set + 1) = (outTo set b.horses.length, true) := by rw [HBook.lackTo_succ]; unfold HBook.lackStep; simp only [hcnd]; rw [hkn] at hsv; rw [hsv]; rfl
                refine ⟨(set + 1, aO, cO), ⟨(by show _ = Value.slice aO (b.lackTo (set + 1)).1.length cO; rw [hst, ← hkn]; rfl), (by show _ = Value.bool (b.lackTo (set + 1)).2; rw [hst]; rfl), rfl, trivial⟩, ?_, ?_, ?_, rfl⟩
                · refine ⟨by dsimp only; omega, ?_⟩
                  dsimp only
                  rw [hst]
                  rw [hkn] at hS
                  exact hS.pick2 (i := 0) (j := 3) rfl rfl (by decide)
                · dsimp only; omega
                · (repeat (first | exact Agree.refl _ _ | exact agree_hv rfl (Agree.refl _ _) | refine agree_upd rfl ?_ | refine agree_mkF rfl ?_ | refine agree_hv rfl ?_))
              · -- f
                have hsv := hc36
                refine k_skip ?_
                refine blk_n ?_
                refine thn ?_
                (try simp only [List.nil_append, List.cons_append, List.set_cons_zero, List.set_cons_succ] at hS)
                refine k_region ?_
                refine r_add rfl rfl rfl rfl (by omega) ?_
                refine r_move (by conv => lhs; whnf) rfl rfl ?_
                refine wpl_nil ?_
                refine thn ?_
                have hst : b.lackTo (set + 1) = b.lackTo set := by rw [HBook.lackTo_succ]; unfold HBook.lackStep; simp only [hcnd]; rw [hkn] at hsv; rw [hsv]; rfl
                refine ⟨(set + 1, aB, cB), ⟨(by show _ = Value.slice aB (b.lackTo (set + 1)).1.length cB; rw [hst]; rfl), (by show _ = Value.bool (b.lackTo (set + 1)).2; rw [hst]; rfl), rfl, trivial⟩, ?_, ?_, ?_, rfl⟩
                · refine ⟨by dsimp only; omega, ?_⟩
                  dsimp only
                  rw [hst]
                  exact hS.pick2 (i := 0) (j := 1) rfl rfl (by decide)
                · dsimp only; omega
                · (repeat (first | exact Agree.refl _ _ | exact agree_hv rfl (Agree.refl _ _) | refine agree_upd rfl ?_ | refine agree_mkF rfl ?_ | refine agree_hv rfl ?_))
        · -- False
          have hq1 := hb26
          refine r_skip rfl rfl ?_
          refine r_skip rfl rfl ?_
          refine r_skip rfl rfl ?_
          refine r_skip rfl rfl ?_
          refine r_skip rfl rfl ?_
          refine r_skip rfl rfl ?_
          refine r_skip rfl rfl ?_
          refine r_skip rfl rfl ?_
          refine r_skip rfl rfl ?_
          refine r_skip rfl rfl ?_
          refine r_skip rfl rfl ?_
          refine r_skip rfl rfl ?_
          refine r_skip rfl rfl ?_
          refine r_skip rfl rfl ?_
          refine r_skip rfl rfl ?_
          refine r_skip rfl rfl ?_
          refine r_skip rfl rfl ?_
          refine r_skip rfl rfl ?_
          refine r_pick_f rfl (by conv => lhs; whnf) rfl rfl ?_
          refine wpl_nil ?_
          refine thn ?_
          refine k_cond_f rfl ?_
          refine k_skip ?_
          refine thn ?_
          refine k_seq ?_
          (try simp only [List.nil_append, List.cons_append, List.set_cons_zero, List.set_cons_succ] at hS)
          refine k_region ?_
          have hcnd : ((b.lackTo set).2 && (decide ((b.lackTo set).1.length < (outTo set b.horses.length).length) || (decide ((outTo set b.horses.length).length = (b.lackTo set).1.length) && decide (0 ≤ cmpL (outTo set b.horses.length) (b.lackTo set).1)))) = false := by rw [← hkn]; first | (rw [show (b.lackTo set).2 = false from hq1]; rfl) | (simp only [decide_eq_true_eq, decide_eq_false_iff_not] at hq2 hq3; rw [Bool.and_eq_false_iff]; right; rw [Bool.or_eq_false_iff]; refine ⟨decide_eq_false (by omega), ?_⟩; rw [Bool.and_eq_false_iff]; first | (left; exact decide_eq_false (by omega)) | (right; simp only [decide_eq_false_iff_not] at hca; exact decide_eq_false hca))
          refine r_load rfl (ld_ba hS (i := 2) rfl rfl rfl ag_25) rfl rfl ?_
          refine r_call rfl (c76 _ (b.horsesOf (restTo b.horses set k)) A1 aH n1 c1 (restTo b.horses set k).length cH (h1.ext hS.ext) (row_rdrow senc_len (hS.get (i := 4) rfl) rfl (by show (restTo b.horses set k).length ≤ 1000; omega)) (rest_good hg (by omega)) (hP.ext hS.ext)) rfl rfl ?_
          rintro _ w37 ⟨m, rfl, hE, hB0, hm0⟩
          have hS := hS.step hE
          refine r_call rfl (c79 _ (b.horsesOf (restTo b.horses set k)) A1 aH n1 c1 (restTo b.horses set k).length cH m hB0) rfl rfl ?_
          rintro _ w38 ⟨rfl, hE⟩
          have hS := hS.step hE
          refine wpl_nil ?_
          refine thn ?_
          refine k_cond rfl (fun hc39 => ?_) (fun hc39 => ?_)
          · -- t
            have hsv := hc39
            (try simp only [List.nil_append, List.cons_append, List.set_cons_zero, List.set_cons_succ] at hS)
            refine k_region ?_
            refine r_move (by conv => lhs; whnf) rfl rfl ?_
            refine r_assign (by conv => lhs; whnf) rfl rfl ?_
            refine r_assign (by conv => lhs; whnf) rfl rfl ?_
            refine wpl_nil ?_
            refine blk_n ?_
            refine thn ?_
            (try simp only [List.nil_append, List.cons_append, List.set_cons_zero, List.set_cons_succ] at hS)
            refine k_region ?_
            refine r_add rfl rfl rfl rfl (by omega) ?_
            refine r_move (by conv => lhs; whnf) rfl rfl ?_
            refine wpl_nil ?_
            refine thn ?_
            have hst : b.lackTo (set + 1) = (outTo set b.horses.length, true) := by rw [HBook.lackTo_succ]; unfold HBook.lackStep; simp only [hcnd]; rw [hkn] at hsv; rw [hsv]; rfl
            refine ⟨(set + 1, aO, cO), ⟨(by show _ = Value.slice aO (b.lackTo (set + 1)).1.length cO; rw [hst, ← hkn]; rfl), (by show _ = Value.bool (b.lackTo (set + 1)).2; rw [hst]; rfl), rfl, trivial⟩, ?_, ?_, ?_, rfl⟩
            · refine ⟨by dsimp only; omega, ?_⟩
              dsimp only
              rw [hst]
              rw [hkn] at hS
              exact hS.pick2 (i := 0) (j := 3) rfl rfl (by decide)
            · dsimp only; omega
            · (repeat (first | exact Agree.refl _ _ | exact agree_hv rfl (Agree.refl _ _) | refine agree_upd rfl ?_ | refine agree_mkF rfl ?_ | refine agree_hv rfl ?_))
          · -- f
            have hsv := hc39
            refine k_skip ?_
            refine blk_n ?_
            refine thn ?_
            (try simp only [List.nil_append, List.cons_append, List.set_cons_zero, List.set_cons_succ] at hS)
            refine k_region ?_
            refine r_add rfl rfl rfl rfl (by omega) ?_
            refine r_move (by conv => lhs; whnf) rfl rfl ?_
            refine wpl_nil ?_
            refine thn ?_
            have hst : b.lackTo (set + 1) = b.lackTo set := by rw [HBook.lackTo_succ]; unfold HBook.lackStep; simp only [hcnd]; rw [hkn] at hsv; rw [hsv]; rfl
            refine ⟨(set + 1, aB, cB), ⟨(by show _ = Value.slice aB (b.lackTo (set + 1)).1.length cB; rw [hst]; rfl), (by show _ = Value.bool (b.lackTo (set + 1)).2; rw [hst]; rfl), rfl, trivial⟩, ?_, ?_, ?_, rfl⟩
            · refine ⟨by dsimp only; omega, ?_⟩
              dsimp only
              rw [hst]
              exact hS.pick2 (i := 0) (j := 1) rfl rfl (by decide)
            · dsimp only; omega
            · (repeat (first | exact Agree.refl _ _ | exact agree_hv rfl (Agree.refl _ _) | refine agree_upd rfl ?_ | refine agree_mkF rfl ?_ | refine agree_hv rfl ?_))
    · -- f
      have hc60 := hc6
      (try simp only [decide_eq_true_eq, decide_eq_false_iff_not, Bool.and_eq_true, Bool.and_eq_false_iff, Bool.not_eq_true', Bool.not_eq_false', Int.not_lt, Int.not_le] at hc6)
      have hse : set = 2 ^ b.horses.length := by rw [hl2]; omega
      refine k_exit ?_
      refine thn_e ?_
      refine thn_e ?_
      refine blk_e ?_
      refine thn ?_
      refine k_seq ?_
      refine k_region ?_
      refine r_move (by conv => lhs; whnf) rfl rfl ?_
      refine r_move (by conv => lhs; whnf) rfl rfl ?_
      refine r_len rfl sl_26 rfl rfl ?_
      refine r_move (by conv => lhs; whnf) rfl rfl ?_
      refine r_len rfl sl_26 rfl rfl ?_
      refine r_slice3 (e := 0) rfl rfl rfl sl_26 (by have := row_cap (hS.get (i := 1) rfl); omega) rfl rfl ?_
      refine r_assign (by conv => lhs; whnf) rfl rfl ?_
      refine r_assign (by conv => lhs; whnf) rfl rfl ?_
      refine wpl_nil ?_
      refine thn ?_
      refine ret2 (fun _ _ _ => rfl) (by conv => lhs; whnf) (by conv => lhs; whnf) ?_
      have h1 : b.lacksV = (b.lackTo set).1 := by unfold HBook.lacksV; rw [hv, hse]; rfl
      refine ⟨aB, (b.lackTo set).1.length, ?_, hS.ext, ?_, lst_row hS (i := 1) rfl⟩
      · rw [h1, show b.chk = 0 by unfold HBook.chk; rw [hv]; rfl]; rfl
      · rw [h1]; exact row_rd (hS.get (i := 1) rfl) (by have := lackTo_len (b := b) (n := set); omega)
end Go.Proofs.YtofpabocpcfbfaaDoor

/- Walks: T16. -/
namespace Go.Proofs.YtofpabocpcfbfaaDoor
open Go Go.Proofs K

theorem c34 (w : World) (n lo hi : Int) : Cv Tryd.prog 34 #[.int .i64 n, .int .i64 lo, .int .i64 hi] w (fun v w' => v = .bool (decide (lo ≤ n) && decide (n ≤ hi)) ∧ Ext no w w') := by
  refine cv_intro Tryd.func34 rfl rfl Tryd.ntmps34 rfl (by kernel_rfl) ?_
  have hS := St.nil w
  refine k_seq ?_
  refine k_region ?_
  refine r_assign (by conv => lhs; whnf) rfl rfl ?_
  refine wpl_nil ?_
  refine thn ?_
  refine k_seq ?_
  refine k_region ?_
  refine r_move (by conv => lhs; whnf) rfl rfl ?_
  refine r_move (by conv => lhs; whnf) rfl rfl ?_
  refine r_leq rfl rfl rfl rfl ?_
  refine r_moveb rfl rfl rfl (fun hb1 => ?_) (fun hb1 => ?_)
  · -- True
    have hb10 := hb1
    (try simp only [decide_eq_true_eq, decide_eq_false_iff_not, Bool.and_eq_true, Bool.and_eq_false_iff, Bool.not_eq_true', Bool.not_eq_false', Int.not_lt, Int.not_le] at hb1)
    refine r_move (by conv => lhs; whnf) rfl rfl ?_
    refine r_move (by conv => lhs; whnf) rfl rfl ?_
    refine r_leq rfl rfl rfl rfl ?_
    refine r_pick_t rfl (by conv => lhs; whnf) rfl rfl ?_
    refine r_assign (by conv => lhs; whnf) rfl rfl ?_
    refine wpl_nil ?_
    refine thn ?_
    refine ret1 (fun _ _ _ => rfl) (by conv => lhs; whnf) ?_
    exact ⟨by (refine congrArg Value.bool ?_; (first | (simp [*]; done) | (rw [Bool.eq_iff_iff]; simp [*]; done) | (rw [Bool.eq_iff_iff]; simp [*]; (intros; omega)) | (rw [Bool.eq_iff_iff]; simp []; omega) | (simp []; grind) | (rw [Bool.eq_iff_iff]; simp []; grind))), hS.ext⟩
  · -- False
    have hb10 := hb1
    (try simp only [decide_eq_true_eq, decide_eq_false_iff_not, Bool.and_eq_true, Bool.and_eq_false_iff, Bool.not_eq_true', Bool.not_eq_false', Int.not_lt, Int.not_le] at hb1)
    refine r_skip rfl rfl ?_
    refine r_skip rfl rfl ?_
    refine r_skip rfl rfl ?_
    refine r_pick_f rfl (by conv => lhs; whnf) rfl rfl ?_
    refine r_assign (by conv => lhs; whnf) rfl rfl ?_
    refine wpl_nil ?_
    refine thn ?_
    refine ret1 (fun _ _ _ => rfl) (by conv => lhs; whnf) ?_
    exact ⟨by (refine congrArg Value.bool ?_; (first | (simp [*]; done) | (rw [Bool.eq_iff_iff]; simp [*]; done) | (rw [Bool.eq_iff_iff]; simp [*]; (intros; omega)) | (rw [Bool.eq_iff_iff]; simp []; omega) | (simp []; grind) | (rw [Bool.eq_iff_iff]; simp []; grind))), hS.ext⟩

theorem c25 (w : World) (lo hi : Int) : Cv Tryd.prog 25 #[.int .i64 lo, .int .i64 hi] w (fun v w' => v = .agg #[.int .i64 lo, .int .i64 hi] ∧ Ext no w w') := by
  refine cv_intro Tryd.func25 rfl rfl Tryd.ntmps25 rfl (by kernel_rfl) ?_
  have hS := St.nil w
  refine k_seq ?_
  refine k_region ?_
  refine r_alloc hS z_35 rfl rfl rfl ?_
  intro b4 w1 hS hE hB4
  refine wpl_nil ?_
  refine thn ?_
  refine k_seq ?_
  refine k_region ?_
  refine r_move (by conv => lhs; whnf) rfl rfl ?_
  refine r_move (by conv => lhs; whnf) rfl rfl ?_
  refine r_build z_35 pl_35 rfl rfl rfl ?_
  refine r_storea hS (i := 0) rfl rfl rfl sz_35 rfl rfl rfl ?_
  intro w2 hS hE
  refine wpl_nil ?_
  refine thn ?_
  refine retc (fun _ _ _ => rfl) rfl (ld_ba hS (i := 0) rfl rfl rfl ag_35) ?_
  exact ⟨rfl, hS.ext⟩

theorem c21 (w : World) (n : Int) : Cv Tryd.prog 21 #[.int .i64 n] w (fun v w' => v = .agg #[.int .i64 n, .int .i64 n] ∧ Ext no w w') := by
  refine cv_intro Tryd.func21 rfl rfl Tryd.ntmps21 rfl (by kernel_rfl) ?_
  have hS := St.nil w
  refine k_seq ?_
  refine k_region ?_
  refine r_alloc hS z_35 rfl rfl rfl ?_
  intro b2 w1 hS hE hB2
  refine wpl_nil ?_
  refine thn ?_
  refine k_seq ?_
  refine k_region ?_
  refine r_move (by conv => lhs; whnf) rfl rfl ?_
  refine r_move (by conv => lhs; whnf) rfl rfl ?_
  refine r_build z_35 pl_35 rfl rfl rfl ?_
  refine r_storea hS (i := 0) rfl rfl rfl sz_35 rfl rfl rfl ?_
  intro w2 hS hE
  refine wpl_nil ?_
  refine thn ?_
  refine retc (fun _ _ _ => rfl) rfl (ld_ba hS (i := 0) rfl rfl rfl ag_35) ?_
  exact ⟨rfl, hS.ext⟩

theorem c62 (w : World) (sl sh lo hi : Int) : Cv Tryd.prog 62 #[.agg #[.int .i64 sl, .int .i64 sh], .int .i64 lo, .int .i64 hi] w (fun v w' => v = .bool (decide (lo ≤ sl) && decide (sl ≤ sh) && decide (sh ≤ hi)) ∧ Ext no w w') := by
  refine cv_intro Tryd.func62 rfl rfl Tryd.ntmps62 rfl (by kernel_rfl) ?_
  have hS := St.nil w
  refine k_seq ?_
  refine k_region ?_
  refine r_boxa hS rfl rfl rfl ?_
  intro b3 w1 hS hE hB3
  refine r_assign (by conv => lhs; whnf) rfl rfl ?_
  refine wpl_nil ?_
  refine thn ?_
  refine k_seq ?_
  refine k_region ?_
  refine r_move (by conv => lhs; whnf) rfl rfl ?_
  refine r_field rfl fl_35_0 rfl rfl ?_
  refine r_load rfl (ld_bs hS (i := 0) rfl rfl sc_3) rfl rfl ?_
  refine r_leq rfl rfl rfl rfl ?_
  refine r_moveb rfl rfl rfl (fun hb2 => ?_) (fun hb2 => ?_)
  · -- True
    have hb20 := hb2
    (try simp only [decide_eq_true_eq, decide_eq_false_iff_not, Bool.and_eq_true, Bool.and_eq_false_iff, Bool.not_eq_true', Bool.not_eq_false', Int.not_lt, Int.not_le] at hb2)
    refine r_field rfl fl_35_0 rfl rfl ?_
    refine r_load rfl (ld_bs hS (i := 0) rfl rfl sc_3) rfl rfl ?_
    refine r_field rfl fl_35_1 rfl rfl ?_
    refine r_load rfl (ld_bs hS (i := 0) rfl rfl sc_3) rfl rfl ?_
    refine r_leq rfl rfl rfl rfl ?_
    refine r_pick_t rfl (by conv => lhs; whnf) rfl rfl ?_
    refine r_moveb rfl rfl rfl (fun hb3 => ?_) (fun hb3 => ?_)
    · -- True
      have hb30 := hb3
      (try simp only [decide_eq_true_eq, decide_eq_false_iff_not, Bool.and_eq_true, Bool.and_eq_false_iff, Bool.not_eq_true', Bool.not_eq_false', Int.not_lt, Int.not_le] at hb3)
      refine r_field rfl fl_35_1 rfl rfl ?_
      refine r_load rfl (ld_bs hS (i := 0) rfl rfl sc_3) rfl rfl ?_
      refine r_move (by conv => lhs; whnf) rfl rfl ?_
      refine r_leq rfl rfl rfl rfl ?_
      refine r_pick_t rfl (by conv => lhs; whnf) rfl rfl ?_
      refine r_assign (by conv => lhs; whnf) rfl rfl ?_
      refine wpl_nil ?_
      refine thn ?_
      refine ret1 (fun _ _ _ => rfl) (by conv => lhs; whnf) ?_
      exact ⟨by (refine congrArg Value.bool ?_; (first | (simp [*]; done) | (rw [Bool.eq_iff_iff]; simp [*]; done) | (rw [Bool.eq_iff_iff]; simp [*]; (intros; omega)) | (rw [Bool.eq_iff_iff]; simp []; omega) | (simp []; grind) | (rw [Bool.eq_iff_iff]; simp []; grind))), hS.ext⟩
    · -- False
      have hb30 := hb3
      (try simp only [decide_eq_true_eq, decide_eq_false_iff_not, Bool.and_eq_true, Bool.and_eq_false_iff, Bool.not_eq_true', Bool.not_eq_false', Int.not_lt, Int.not_le] at hb3)
      refine r_skip rfl rfl ?_
      refine r_skip rfl rfl ?_
      refine r_skip rfl rfl ?_
      refine r_skip rfl rfl ?_
      refine r_pick_f rfl (by conv => lhs; whnf) rfl rfl ?_
      refine r_assign (by conv => lhs; whnf) rfl rfl ?_
      refine wpl_nil ?_
      refine thn ?_
      refine ret1 (fun _ _ _ => rfl) (by conv => lhs; whnf) ?_
      exact ⟨by (refine congrArg Value.bool ?_; (first | (simp [*]; done) | (rw [Bool.eq_iff_iff]; simp [*]; done) | (rw [Bool.eq_iff_iff]; simp [*]; (intros; omega)) | (rw [Bool.eq_iff_iff]; simp []; omega) | (simp []; grind) | (rw [Bool.eq_iff_iff]; simp []; grind))), hS.ext⟩
  · -- False
    have hb20 := hb2
    (try simp only [decide_eq_true_eq, decide_eq_false_iff_not, Bool.and_eq_true, Bool.and_eq_false_iff, Bool.not_eq_true', Bool.not_eq_false', Int.not_lt, Int.not_le] at hb2)
    refine r_skip rfl rfl ?_
    refine r_skip rfl rfl ?_
    refine r_skip rfl rfl ?_
    refine r_skip rfl rfl ?_
    refine r_skip rfl rfl ?_
    refine r_pick_f rfl (by conv => lhs; whnf) rfl rfl ?_
    refine r_move (by conv => lhs; whnf) rfl rfl ?_
    refine r_skip rfl rfl ?_
    refine r_skip rfl rfl ?_
    refine r_skip rfl rfl ?_
    refine r_skip rfl rfl ?_
    refine r_pick_f rfl (by conv => lhs; whnf) rfl rfl ?_
    refine r_assign (by conv => lhs; whnf) rfl rfl ?_
    refine wpl_nil ?_
    refine thn ?_
    refine ret1 (fun _ _ _ => rfl) (by conv => lhs; whnf) ?_
    exact ⟨by (refine congrArg Value.bool ?_; (first | (simp [*]; done) | (rw [Bool.eq_iff_iff]; simp [*]; done) | (rw [Bool.eq_iff_iff]; simp [*]; (intros; omega)) | (rw [Bool.eq_iff_iff]; simp []; omega) | (simp []; grind) | (rw [Bool.eq_iff_iff]; simp []; grind))), hS.ext⟩

theorem c23 (w : World) (a c d e : Int) (h1 : -1000000000 ≤ a ∧ a ≤ 1000000000) (h2 : -1000000000 ≤ c ∧ c ≤ 1000000000) (h3 : -1000000000 ≤ d ∧ d ≤ 1000000000) (h4 : -1000000000 ≤ e ∧ e ≤ 1000000000) : Cv Tryd.prog 23 #[.agg #[.int .i64 a, .int .i64 c], .agg #[.int .i64 d, .int .i64 e]] w (fun v w' => v = .agg #[.int .i64 (a + d), .int .i64 (c + e)] ∧ Ext no w w') := by
  refine cv_intro Tryd.func23 rfl rfl Tryd.ntmps23 rfl (by kernel_rfl) ?_
  have hS := St.nil w
  refine k_seq ?_
  refine k_region ?_
  refine r_boxa hS rfl rfl rfl ?_
  intro b2 w1 hS hE hB2
  refine r_boxa hS rfl rfl rfl ?_
  intro b3 w2 hS hE hB3
  refine r_alloc hS z_35 rfl rfl rfl ?_
  intro b4 w3 hS hE hB4
  refine wpl_nil ?_
  refine thn ?_
  refine k_seq ?_
  refine k_region ?_
  refine r_field rfl fl_35_0 rfl rfl ?_
  refine r_load rfl (ld_bs hS (i := 0) rfl rfl sc_3) rfl rfl ?_
  refine r_field rfl fl_35_0 rfl rfl ?_
  refine r_load rfl (ld_bs hS (i := 1) rfl rfl sc_3) rfl rfl ?_
  refine r_add rfl rfl rfl rfl (by omega) ?_
  refine r_field rfl fl_35_1 rfl rfl ?_
  refine r_load rfl (ld_bs hS (i := 0) rfl rfl sc_3) rfl rfl ?_
  refine r_field rfl fl_35_1 rfl rfl ?_
  refine r_load rfl (ld_bs hS (i := 1) rfl rfl sc_3) rfl rfl ?_
  refine r_add rfl rfl rfl rfl (by omega) ?_
  refine r_call rfl (c25 _ _ _) rfl rfl ?_
  rintro _ w4 ⟨rfl, hE⟩
  have hS := hS.step hE
  refine r_storea hS (i := 2) rfl rfl rfl sz_35 rfl rfl rfl ?_
  intro w5 hS hE
  refine wpl_nil ?_
  refine thn ?_
  refine retc (fun _ _ _ => rfl) rfl (ld_ba hS (i := 2) rfl rfl rfl ag_35) ?_
  exact ⟨rfl, hS.ext⟩

theorem c17 (w : World) (n many : Int) (hm : many ≤ 1125899906842624) : Cv Tryd.prog 17 #[.int .i64 n, .int .i64 many] w (fun v w' => v = .int .i64 (roundI n many) ∧ Ext no w w') := by
  refine cv_intro Tryd.func17 rfl rfl Tryd.ntmps17 rfl (by kernel_rfl) ?_
  have hS := St.nil w
  refine k_seq ?_
  refine k_region ?_
  refine r_assign (by conv => lhs; whnf) rfl rfl ?_
  refine wpl_nil ?_
  refine thn ?_
  refine k_seq ?_
  refine k_seq ?_
  refine k_region ?_
  refine r_move (by conv => lhs; whnf) rfl rfl ?_
  refine r_lss rfl rfl rfl rfl ?_
  refine wpl_nil ?_
  refine thn ?_
  refine k_cond rfl (fun hc1 => ?_) (fun hc1 => ?_)
  · -- t
    have hc10 := hc1
    (try simp only [decide_eq_true_eq, decide_eq_false_iff_not, Bool.and_eq_true, Bool.and_eq_false_iff, Bool.not_eq_true', Bool.not_eq_false', Int.not_lt, Int.not_le] at hc1)
    have h7 := hc1
    refine k_seq ?_
    refine k_region ?_
    refine r_assign (by conv => lhs; whnf) rfl rfl ?_
    refine wpl_nil ?_
    refine thn ?_
    refine ret1 (fun _ _ _ => rfl) (by conv => lhs; whnf) ?_
    exact ⟨by unfold roundI; rw [if_pos (by omega)], hS.ext⟩
  · -- f
    have hc10 := hc1
    (try simp only [decide_eq_true_eq, decide_eq_false_iff_not, Bool.and_eq_true, Bool.and_eq_false_iff, Bool.not_eq_true', Bool.not_eq_false', Int.not_lt, Int.not_le] at hc1)
    have h7 : ¬ many < 1 := by omega
    have ht := tmod_facts (n := n) h7
    refine k_skip ?_
    refine thn ?_
    refine k_seq ?_
    refine k_region ?_
    refine r_move (by conv => lhs; whnf) rfl rfl ?_
    refine r_move (by conv => lhs; whnf) rfl rfl ?_
    refine r_rem rfl rfl rfl rfl (by omega) ?_
    refine r_assign (by conv => lhs; whnf) rfl rfl ?_
    refine wpl_nil ?_
    refine thn ?_
    refine k_seq ?_
    refine k_seq ?_
    refine k_region ?_
    refine r_move (by conv => lhs; whnf) rfl rfl ?_
    refine r_lss rfl rfl rfl rfl ?_
    refine wpl_nil ?_
    refine thn ?_
    refine k_cond rfl (fun hc2 => ?_) (fun hc2 => ?_)
    · -- t
      have hc20 := hc2
      (try simp only [decide_eq_true_eq, decide_eq_false_iff_not, Bool.and_eq_true, Bool.and_eq_false_iff, Bool.not_eq_true', Bool.not_eq_false', Int.not_lt, Int.not_le] at hc2)
      have hr : roundI n many = n.tmod many + many := by unfold roundI; rw [if_neg h7]; have := ht.2.2.1 (by omega); omega
      refine k_region ?_
      refine r_move (by conv => lhs; whnf) rfl rfl ?_
      refine r_move (by conv => lhs; whnf) rfl rfl ?_
      refine r_add rfl rfl rfl rfl (by omega) ?_
      refine r_assign (by conv => lhs; whnf) rfl rfl ?_
      refine wpl_nil ?_
      refine thn ?_
      refine k_seq ?_
      refine k_region ?_
      refine r_move (by conv => lhs; whnf) rfl rfl ?_
      refine r_assign (by conv => lhs; whnf) rfl rfl ?_
      refine wpl_nil ?_
      refine thn ?_
      refine ret1 (fun _ _ _ => rfl) (by conv => lhs; whnf) ?_
      exact ⟨by rw [hr], hS.ext⟩
    · -- f
      have hc20 := hc2
      (try simp only [decide_eq_true_eq, decide_eq_false_iff_not, Bool.and_eq_true, Bool.and_eq_false_iff, Bool.not_eq_true', Bool.not_eq_false', Int.not_lt, Int.not_le] at hc2)
      have hr : roundI n many = n.tmod many := by unfold roundI; rw [if_neg h7]; exact (ht.2.2.2 (by omega)).symm
      refine k_skip ?_
      refine thn ?_
      refine k_seq ?_
      refine k_region ?_
      refine r_move (by conv => lhs; whnf) rfl rfl ?_
      refine r_assign (by conv => lhs; whnf) rfl rfl ?_
      refine wpl_nil ?_
      refine thn ?_
      refine ret1 (fun _ _ _ => rfl) (by conv => lhs; whnf) ?_
      exact ⟨by rw [hr], hS.ext⟩

theorem c64 (w : World) (xs : List Int) (A : Option Addr) (n c : Nat) (h : RdInts w A n xs) (k : Int) : Cv Tryd.prog 64 #[.slice A n c, .int .i64 k] w (fun v w' => v = .int .i64 (takeI xs k) ∧ Ext no w w') := by
  refine cv_intro Tryd.func64 rfl rfl Tryd.ntmps64 rfl (by kernel_rfl) ?_
  have hS := St.nil w
  have hl := h.1
  have hlb := h.2.1
  refine k_seq ?_
  refine k_region ?_
  refine r_assign (by conv => lhs; whnf) rfl rfl ?_
  refine wpl_nil ?_
  refine thn ?_
  refine k_seq ?_
  refine k_seq ?_
  refine k_region ?_
  refine r_move (by conv => lhs; whnf) rfl rfl ?_
  refine r_len rfl sl_26 rfl rfl ?_
  refine r_eql rfl rfl rfl rfl ?_
  refine wpl_nil ?_
  refine thn ?_
  refine k_cond rfl (fun hc1 => ?_) (fun hc1 => ?_)
  · -- t
    have hc10 := hc1
    (try simp only [decide_eq_true_eq, decide_eq_false_iff_not, Bool.and_eq_true, Bool.and_eq_false_iff, Bool.not_eq_true', Bool.not_eq_false', Int.not_lt, Int.not_le] at hc1)
    refine k_seq ?_
    refine k_region ?_
    refine r_assign (by conv => lhs; whnf) rfl rfl ?_
    refine wpl_nil ?_
    refine thn ?_
    refine ret1 (fun _ _ _ => rfl) (by conv => lhs; whnf) ?_
    exact ⟨by unfold takeI; rw [decide_eq_true (by omega)]; rfl, hS.ext⟩
  · -- f
    have hc10 := hc1
    (try simp only [decide_eq_true_eq, decide_eq_false_iff_not, Bool.and_eq_true, Bool.and_eq_false_iff, Bool.not_eq_true', Bool.not_eq_false', Int.not_lt, Int.not_le] at hc1)
    have hr := roundI_bd (n := k) (m := (n : Int)) (by omega)
    obtain ⟨a, hA, hcl⟩ := h.at (d := 0) hr
    refine k_skip ?_
    refine thn ?_
    refine k_seq ?_
    refine k_region ?_
    refine r_move (by conv => lhs; whnf) rfl rfl ?_
    refine r_move (by conv => lhs; whnf) rfl rfl ?_
    refine r_move (by conv => lhs; whnf) rfl rfl ?_
    refine r_len rfl sl_26 rfl rfl ?_
    refine r_call rfl (c17 _ _ _ (by omega)) rfl rfl ?_
    rintro _ w2 ⟨rfl, hE⟩
    have hS := hS.step hE
    refine r_index (congrArg (fun A => Value.slice A n c) hA) rfl sl_26 (by omega) rfl rfl ?_
    refine r_load rfl (ld_sc ((hcl.ext hS.ext) 0 _ rfl) sc_3) rfl rfl ?_
    refine r_assign (by conv => lhs; whnf) rfl rfl ?_
    refine wpl_nil ?_
    refine thn ?_
    refine ret1 (fun _ _ _ => rfl) (by conv => lhs; whnf) ?_
    exact ⟨by unfold takeI; rw [decide_eq_false (by omega), hl]; rfl, hS.ext⟩

theorem c80 (w : World) (set k : Nat) (hs : set < 1000000) (hk : k ≤ 60) : Cv Tryd.prog 80 #[.int .i64 (set : Int), .int .i64 (k : Int)] w (fun v w' => v = .bool (bitB set k) ∧ Ext no w w') := by
  refine cv_intro Tryd.func80 rfl rfl Tryd.ntmps80 rfl (by kernel_rfl) ?_
  have hS := St.nil w
  refine k_seq ?_
  refine k_region ?_
  refine r_assign (by conv => lhs; whnf) rfl rfl ?_
  refine wpl_nil ?_
  refine thn ?_
  refine k_seq ?_
  refine k_region ?_
  refine r_move (by conv => lhs; whnf) rfl rfl ?_
  refine r_move (by conv => lhs; whnf) rfl rfl ?_
  refine r_shrn (a := set) (n := k) rfl rfl (by omega) rfl rfl ?_
  refine r_and1 (a := set / 2 ^ k) rfl rfl (Nat.lt_of_le_of_lt (Nat.div_le_self _ _) (by omega)) rfl rfl ?_
  refine r_eql rfl rfl rfl rfl ?_
  refine r_assign (by conv => lhs; whnf) rfl rfl ?_
  refine wpl_nil ?_
  refine thn ?_
  refine ret1 (fun _ _ _ => rfl) (by conv => lhs; whnf) ?_
  refine ⟨congrArg Value.bool ?_, hS.ext⟩
  unfold bitB
  rw [Bool.eq_iff_iff]
  simp only [decide_eq_true_eq, beq_iff_eq]
  omega

theorem c85 (w : World) (a c d e : Int) : Cv Tryd.prog 85 #[.agg #[.int .i64 a, .int .i64 c], .agg #[.int .i64 d, .int .i64 e]] w (fun v w' => v = .agg #[.int .i64 a, .int .i64 c, .int .i64 d, .int .i64 e] ∧ Ext no w w') := by
  refine cv_intro Tryd.func85 rfl rfl Tryd.ntmps85 rfl (by kernel_rfl) ?_
  have hS := St.nil w
  refine k_seq ?_
  refine k_region ?_
  refine r_boxa hS rfl rfl rfl ?_
  intro b2 w1 hS hE hB2
  refine r_boxa hS rfl rfl rfl ?_
  intro b3 w2 hS hE hB3
  refine r_alloc hS z_42 rfl rfl rfl ?_
  intro b4 w3 hS hE hB4
  refine wpl_nil ?_
  refine thn ?_
  refine k_seq ?_
  refine k_region ?_
  refine r_load rfl (ld_ba hS (i := 0) rfl rfl rfl ag_35) rfl rfl ?_
  refine r_load rfl (ld_ba hS (i := 1) rfl rfl rfl ag_35) rfl rfl ?_
  refine r_build z_42 pl_42 rfl rfl rfl ?_
  refine r_storea hS (i := 2) rfl rfl rfl sz_42 rfl rfl rfl ?_
  intro w4 hS hE
  refine wpl_nil ?_
  refine thn ?_
  refine retc (fun _ _ _ => rfl) rfl (ld_ba hS (i := 2) rfl rfl rfl ag_42) ?_
  exact ⟨rfl, hS.ext⟩

theorem c98 (w : World) (a c d : Int) : Cv Tryd.prog 98 #[.int .i64 a, .int .i64 c, .int .i64 d] w (fun v w' => v = .agg #[.int .i64 a, .int .i64 c, .int .i64 d] ∧ Ext no w w') := by
  refine cv_intro Tryd.func98 rfl rfl Tryd.ntmps98 rfl (by kernel_rfl) ?_
  have hS := St.nil w
  refine k_seq ?_
  refine k_region ?_
  refine r_alloc hS z_65 rfl rfl rfl ?_
  intro b6 w1 hS hE hB6
  refine wpl_nil ?_
  refine thn ?_
  refine k_seq ?_
  refine k_region ?_
  refine r_move (by conv => lhs; whnf) rfl rfl ?_
  refine r_move (by conv => lhs; whnf) rfl rfl ?_
  refine r_move (by conv => lhs; whnf) rfl rfl ?_
  refine r_build z_65 pl_65 rfl rfl rfl ?_
  refine r_storea hS (i := 0) rfl rfl rfl sz_65 rfl rfl rfl ?_
  intro w2 hS hE
  refine wpl_nil ?_
  refine thn ?_
  refine retc (fun _ _ _ => rfl) rfl (ld_ba hS (i := 0) rfl rfl rfl ag_65) ?_
  exact ⟨rfl, hS.ext⟩

theorem c44 (w : World) (xs ys : List Int) (A A2 : Option Addr) (n c n2 c2 : Nat) (h : RdInts w A n xs) (h2 : RdInts w A2 n2 ys) : Cv Tryd.prog 44 #[.slice A n c, .slice A2 n2 c2] w (fun v w' => v = .bool (decide (xs = ys)) ∧ Ext no w w') := by
  refine cv_intro Tryd.func44 rfl rfl Tryd.ntmps44 rfl (by kernel_rfl) ?_
  have hS := St.nil w
  have hl := h.1
  have hlb := h.2.1
  have hl2 := h2.1
  have hlb2 := h2.2.1
  refine k_seq ?_
  refine k_region ?_
  refine r_assign (by conv => lhs; whnf) rfl rfl ?_
  refine wpl_nil ?_
  refine thn ?_
  refine k_seq ?_
  refine k_region ?_
  refine r_move (by conv => lhs; whnf) rfl rfl ?_
  refine r_len rfl sl_26 rfl rfl ?_
  refine r_move (by conv => lhs; whnf) rfl rfl ?_
  refine r_len rfl sl_26 rfl rfl ?_
  refine r_eql rfl rfl rfl rfl ?_
  refine r_assign (by conv => lhs; whnf) rfl rfl ?_
  refine wpl_nil ?_
  refine thn ?_
  refine k_seq ?_
  refine k_seq ?_
  refine k_region ?_
  refine r_assign (by conv => lhs; whnf) rfl rfl ?_
  refine wpl_nil ?_
  refine thn ?_
  refine k_block ?_
  refine k_loop (ι := Nat) [5, 6, 12, 13, 14, 15, 16, 17, 18, 19, 20, 21, 22, 23, 24, 25, 26, 27, 28, 29] (fun k => [(5, .bool (eqTo xs ys k)), (6, .int .i64 (k : Int))]) (fun k w' => k ≤ n ∧ St (bs w) w' []) (fun k => n - k) 0 ⟨(by refine congrArg Value.bool ?_; unfold eqTo; simp; omega), rfl, trivial⟩ ⟨Nat.zero_le _, hS⟩ ?_
  rintro k j w2 ⟨hk0, hS⟩
  refine k_seq ?_
  refine k_seq ?_
  refine k_region ?_
  refine r_move (by conv => lhs; whnf) rfl rfl ?_
  refine r_moveb rfl rfl rfl (fun hb2 => ?_) (fun hb2 => ?_)
  · -- True
    have hq := hb2
    refine r_move (by conv => lhs; whnf) rfl rfl ?_
    refine r_move (by conv => lhs; whnf) rfl rfl ?_
    refine r_len rfl sl_26 rfl rfl ?_
    refine r_lss rfl rfl rfl rfl ?_
    refine r_pick_t rfl (by conv => lhs; whnf) rfl rfl ?_
    refine wpl_nil ?_
    refine thn ?_
    refine k_cond rfl (fun hc3 => ?_) (fun hc3 => ?_)
    · -- t
      have hc30 := hc3
      (try simp only [decide_eq_true_eq, decide_eq_false_iff_not, Bool.and_eq_true, Bool.and_eq_false_iff, Bool.not_eq_true', Bool.not_eq_false', Int.not_lt, Int.not_le] at hc3)
      have hk : k < n := by omega
      have hnn : n = n2 := by have := hq; unfold eqTo at this; simp only [Bool.and_eq_true, decide_eq_true_eq] at this; omega
      obtain ⟨a, hA, hcl⟩ := h.nat (d := 0) hk
      obtain ⟨a2, hA2, hcl2⟩ := h2.nat (d := 0) (k := k) (by omega)
      refine k_skip ?_
      refine thn ?_
      refine k_seq ?_
      refine k_block ?_
      have hSb := hS
      apply k_draw (m := 8) (ss := [.val _, .val _, .val _, .val _, .val _, .val _, .val _, .val _]) mixed rfl (by kernel_rfl) (by kernel_rfl) rfl rfl rfl
      · refine ⟨?_, ?_, ?_, ?_, ?_, ?_, ?_, ?_, trivial⟩
        · -- op 0
          intro jnk vals lo hi w4 hE0 hd
          have hS := hS.step hE0
          refine r_move (by conv => lhs; whnf) rfl rfl ?_
          refine wpl_end ?_
          exact ⟨rfl, Ext.refl _ _, rfl⟩
        · -- op 1
          intro jnk vals lo hi w5 hE0 hd
          have hS := hS.step hE0
          refine r_move (by conv => lhs; whnf) rfl rfl ?_
          refine wpl_end ?_
          exact ⟨rfl, Ext.refl _ _, rfl⟩
        · -- op 2
          intro jnk vals lo hi w6 hE0 hd
          have hS := hS.step hE0
          refine r_index (congrArg (fun A => Value.slice A n c) hA) rfl sl_26 (by omega) rfl rfl ?_
          refine wpl_end ?_
          exact ⟨rfl, Ext.refl _ _, rfl⟩
        · -- op 3
          intro jnk vals lo hi w8 hE0 hd
          have hS := hS.step hE0
          refine r_load rfl (ld_sc ((hcl.ext hS.ext) 0 _ rfl) sc_3) rfl rfl ?_
          refine wpl_end ?_
          exact ⟨rfl, Ext.refl _ _, rfl⟩
        · -- op 4
          intro jnk vals lo hi w10 hE0 hd
          have hS := hS.step hE0
          refine r_move (by conv => lhs; whnf) rfl rfl ?_
          refine wpl_end ?_
          exact ⟨rfl, Ext.refl _ _, rfl⟩
        · -- op 5
          intro jnk vals lo hi w11 hE0 hd
          have hS := hS.step hE0
          refine r_move (by conv => lhs; whnf) rfl rfl ?_
          refine wpl_end ?_
          exact ⟨rfl, Ext.refl _ _, rfl⟩
        · -- op 6
          intro jnk vals lo hi w12 hE0 hd
          have hS := hS.step hE0
          refine r_index (congrArg (fun A => Value.slice A n2 c2) hA2) rfl sl_26 (by omega) rfl rfl ?_
          refine wpl_end ?_
          exact ⟨rfl, Ext.refl _ _, rfl⟩
        · -- op 7
          intro jnk vals lo hi w14 hE0 hd
          have hS := hS.step hE0
          refine r_load rfl (ld_sc ((hcl2.ext hS.ext) 0 _ rfl) sc_3) rfl rfl ?_
          refine wpl_end ?_
          exact ⟨rfl, Ext.refl _ _, rfl⟩
      · intro φ hφ v lo hi S w1 w2 hEa hEb hSb2
        simp at hφ
      intro jnk vals lo hi w16 hE0 hsat hdj hbd
      have hS := hS.step hE0
      refine r_eql rfl rfl rfl rfl ?_
      refine r_assign (by conv => lhs; whnf) rfl rfl ?_
      refine wpl_nil ?_
      refine blk_n ?_
      refine thn ?_
      refine k_region ?_
      refine r_move (by conv => lhs; whnf) rfl rfl ?_
      refine r_add rfl rfl rfl rfl (by omega) ?_
      refine r_assign (by conv => lhs; whnf) rfl rfl ?_
      refine wpl_nil ?_
      refine thn ?_
      refine ⟨k + 1, ⟨(by refine congrArg Value.bool ?_; exact (eqTo_succ hq (by omega)).symm), rfl, trivial⟩, ?_, ?_, ?_, rfl⟩
      · exact ⟨by omega, hS⟩
      · omega
      · (repeat (first | exact Agree.refl _ _ | exact agree_hv rfl (Agree.refl _ _) | refine agree_upd rfl ?_ | refine agree_mkF rfl ?_ | refine agree_hv rfl ?_))
    · -- f
      have hc30 := hc3
      (try simp only [decide_eq_true_eq, decide_eq_false_iff_not, Bool.and_eq_true, Bool.and_eq_false_iff, Bool.not_eq_true', Bool.not_eq_false', Int.not_lt, Int.not_le] at hc3)
      have hk : xs.length ≤ k := by omega
      refine k_exit ?_
      refine thn_e ?_
      refine thn_e ?_
      refine blk_e ?_
      refine thn ?_
      refine k_seq ?_
      refine k_region ?_
      refine r_move (by conv => lhs; whnf) rfl rfl ?_
      refine r_assign (by conv => lhs; whnf) rfl rfl ?_
      refine wpl_nil ?_
      refine thn ?_
      refine ret1 (fun _ _ _ => rfl) (by conv => lhs; whnf) ?_
      refine ⟨congrArg Value.bool ?_, hS.ext⟩
      rw [hq]; exact (eqTo_end hq hk).symm
  · -- False
    have hq := hb2
    refine r_skip rfl rfl ?_
    refine r_skip rfl rfl ?_
    refine r_skip rfl rfl ?_
    refine r_skip rfl rfl ?_
    refine r_pick_f rfl (by conv => lhs; whnf) rfl rfl ?_
    refine wpl_nil ?_
    refine thn ?_
    refine k_cond_f rfl ?_
    refine k_exit ?_
    refine thn_e ?_
    refine thn_e ?_
    refine blk_e ?_
    refine thn ?_
    refine k_seq ?_
    refine k_region ?_
    refine r_move (by conv => lhs; whnf) rfl rfl ?_
    refine r_assign (by conv => lhs; whnf) rfl rfl ?_
    refine wpl_nil ?_
    refine thn ?_
    refine ret1 (fun _ _ _ => rfl) (by conv => lhs; whnf) ?_
    refine ⟨congrArg Value.bool ?_, hS.ext⟩
    rw [hq]; exact (eqTo_no hq).symm

theorem c24 (w : World) (xs : List Int) (A : Option Addr) (n c : Nat) (h : RdInts w A n xs) (hn : n ≤ 1000) (hb : ∀ x ∈ xs, 0 ≤ x ∧ x ≤ 1000000) : Cv Tryd.prog 24 #[.slice A n c] w (fun v w' => v = .int .i64 (sumTo xs xs.length) ∧ Ext no w w') := by
  refine cv_intro Tryd.func24 rfl rfl Tryd.ntmps24 rfl (by kernel_rfl) ?_
  have hS := St.nil w
  have hl := h.1
  refine k_seq ?_
  refine k_region ?_
  refine r_assign (by conv => lhs; whnf) rfl rfl ?_
  refine wpl_nil ?_
  refine thn ?_
  refine k_seq ?_
  refine k_region ?_
  refine r_assign (by conv => lhs; whnf) rfl rfl ?_
  refine wpl_nil ?_
  refine thn ?_
  refine k_seq ?_
  refine k_seq ?_
  refine k_region ?_
  refine r_assign (by conv => lhs; whnf) rfl rfl ?_
  refine wpl_nil ?_
  refine thn ?_
  refine k_block ?_
  refine k_loop (ι := Nat) [3, 4, 5, 6, 7, 8, 9, 10, 11, 12, 13, 14, 15, 16] (fun k => [(3, .int .i64 (sumTo xs k)), (4, .int .i64 (k : Int))]) (fun k w' => k ≤ n ∧ St (bs w) w' []) (fun k => n - k) 0 ⟨rfl, rfl, trivial⟩ ⟨Nat.zero_le _, hS⟩ ?_
  rintro k j w2 ⟨hk0, hS⟩
  refine k_seq ?_
  refine k_seq ?_
  refine k_region ?_
  refine r_move (by conv => lhs; whnf) rfl rfl ?_
  refine r_move (by conv => lhs; whnf) rfl rfl ?_
  refine r_len rfl sl_26 rfl rfl ?_
  refine r_lss rfl rfl rfl rfl ?_
  refine wpl_nil ?_
  refine thn ?_
  refine k_cond rfl (fun hc2 => ?_) (fun hc2 => ?_)
  · -- t
    have hc20 := hc2
    (try simp only [decide_eq_true_eq, decide_eq_false_iff_not, Bool.and_eq_true, Bool.and_eq_false_iff, Bool.not_eq_true', Bool.not_eq_false', Int.not_lt, Int.not_le] at hc2)
    have hk : k < n := by omega
    obtain ⟨a, hA, hcl⟩ := h.nat (d := 0) hk
    have hx := hb _ (getD_mem (d := 0) (k := k) (by omega))
    have hsb := sumTo_bd hb (k := k) (by omega)
    refine k_skip ?_
    refine thn ?_
    refine k_seq ?_
    refine k_block ?_
    refine k_region ?_
    refine r_move (by conv => lhs; whnf) rfl rfl ?_
    refine r_move (by conv => lhs; whnf) rfl rfl ?_
    refine r_move (by conv => lhs; whnf) rfl rfl ?_
    refine r_index (congrArg (fun A => Value.slice A n c) hA) rfl sl_26 (by omega) rfl rfl ?_
    refine r_load rfl (ld_sc ((hcl.ext hS.ext) 0 _ rfl) sc_3) rfl rfl ?_
    refine r_add rfl rfl rfl rfl (by omega) ?_
    refine r_assign (by conv => lhs; whnf) rfl rfl ?_
    refine wpl_nil ?_
    refine blk_n ?_
    refine thn ?_
    refine k_region ?_
    refine r_move (by conv => lhs; whnf) rfl rfl ?_
    refine r_add rfl rfl rfl rfl (by omega) ?_
    refine r_assign (by conv => lhs; whnf) rfl rfl ?_
    refine wpl_nil ?_
    refine thn ?_
    refine ⟨k + 1, ⟨(by refine congrArg iv ?_; exact (sumTo_succ (by omega)).symm), rfl, trivial⟩, ?_, ?_, ?_, rfl⟩
    · exact ⟨by omega, hS⟩
    · omega
    · (repeat (first | exact Agree.refl _ _ | exact agree_hv rfl (Agree.refl _ _) | refine agree_upd rfl ?_ | refine agree_mkF rfl ?_ | refine agree_hv rfl ?_))
  · -- f
    have hc20 := hc2
    (try simp only [decide_eq_true_eq, decide_eq_false_iff_not, Bool.and_eq_true, Bool.and_eq_false_iff, Bool.not_eq_true', Bool.not_eq_false', Int.not_lt, Int.not_le] at hc2)
    have hk : k = xs.length := by omega
    refine k_exit ?_
    refine thn_e ?_
    refine thn_e ?_
    refine blk_e ?_
    refine thn ?_
    refine k_seq ?_
    refine k_region ?_
    refine r_move (by conv => lhs; whnf) rfl rfl ?_
    refine r_assign (by conv => lhs; whnf) rfl rfl ?_
    refine wpl_nil ?_
    refine thn ?_
    refine ret1 (fun _ _ _ => rfl) (by conv => lhs; whnf) ?_
    exact ⟨by rw [hk], hS.ext⟩
end Go.Proofs.YtofpabocpcfbfaaDoor

/- Walks: T17. -/
namespace Go.Proofs.YtofpabocpcfbfaaDoor
open Go Go.Proofs K

theorem c45 (w : World) : Cv Tryd.prog 45 #[] w (fun v w' => NewBook ownHanks 3 w v w') := by
  refine cv_intro Tryd.func45 rfl rfl Tryd.ntmps45 rfl (by kernel_rfl) ?_
  have hS := St.nil w
  refine k_seq ?_
  refine k_region ?_
  refine r_alloc hS z_25 rfl rfl rfl ?_
  intro b0 w1 hS hE hB0
  refine wpl_nil ?_
  refine thn ?_
  refine k_seq ?_
  refine k_region ?_
  refine r_call rfl (c25 _ _ _) rfl rfl ?_
  rintro _ w2 ⟨rfl, hE⟩
  have hS := hS.step hE
  refine r_call rfl (c25 _ _ _) rfl rfl ?_
  rintro _ w3 ⟨rfl, hE⟩
  have hS := hS.step hE
  refine r_call rfl (c85 _ _ _ _ _) rfl rfl ?_
  rintro _ w4 ⟨rfl, hE⟩
  have hS := hS.step hE
  refine r_call rfl (c25 _ _ _) rfl rfl ?_
  rintro _ w5 ⟨rfl, hE⟩
  have hS := hS.step hE
  refine r_call rfl (c21 _ _) rfl rfl ?_
  rintro _ w6 ⟨rfl, hE⟩
  have hS := hS.step hE
  refine r_call rfl (c85 _ _ _ _ _) rfl rfl ?_
  rintro _ w7 ⟨rfl, hE⟩
  have hS := hS.step hE
  refine r_call rfl (c25 _ _ _) rfl rfl ?_
  rintro _ w8 ⟨rfl, hE⟩
  have hS := hS.step hE
  refine r_call rfl (c21 _ _) rfl rfl ?_
  rintro _ w9 ⟨rfl, hE⟩
  have hS := hS.step hE
  refine r_call rfl (c85 _ _ _ _ _) rfl rfl ?_
  rintro _ w10 ⟨rfl, hE⟩
  have hS := hS.step hE
  refine r_buildSlice hS us_22 sz_42 z_42 rfl rfl rfl rfl rfl ?_
  intro b10 w11 hS hE hB10
  refine r_call rfl (c98 _ _ _ _) rfl rfl ?_
  rintro _ w12 ⟨rfl, hE⟩
  have hS := hS.step hE
  refine r_call rfl (c98 _ _ _ _) rfl rfl ?_
  rintro _ w13 ⟨rfl, hE⟩
  have hS := hS.step hE
  refine r_buildSlice hS us_23 sz_65 z_65 rfl rfl rfl rfl rfl ?_
  intro b13 w14 hS hE hB13
  refine r_build z_25 pl_25 rfl rfl rfl ?_
  refine r_storea hS (i := 0) rfl rfl rfl sz_25 rfl rfl rfl ?_
  intro w15 hS hE
  refine wpl_nil ?_
  refine thn ?_
  refine retc (fun _ _ _ => rfl) rfl (ld_ba hS (i := 0) rfl rfl rfl ag_25) ?_
  exact ⟨b10, b13, rfl, hS.ext, hS.get (i := 1) rfl, hS.get (i := 2) rfl, hS.rng (i := 1) rfl, hS.rng (i := 2) rfl, fun h => hS.ne (i := 1) (j := 2) rfl rfl (by decide) _ rfl h⟩

theorem c63 (w : World) : Cv Tryd.prog 63 #[] w (fun v w' => NewBook shortHanks 3 w v w') := by
  refine cv_intro Tryd.func63 rfl rfl Tryd.ntmps63 rfl (by kernel_rfl) ?_
  have hS := St.nil w
  refine k_seq ?_
  refine k_region ?_
  refine r_alloc hS z_25 rfl rfl rfl ?_
  intro b0 w1 hS hE hB0
  refine wpl_nil ?_
  refine thn ?_
  refine k_seq ?_
  refine k_region ?_
  refine r_call rfl (c45 _) rfl rfl ?_
  rintro _ w2 ⟨p1, p2, rfl, hE, hb1, hb2, hr1, hr2, hne⟩
  have hS := NewBook.add hS hE hb1 hb2 hr1 hr2 hne
  refine r_alloc hS z_25 rfl rfl rfl ?_
  intro b1 w3 hS hE hB1
  refine r_storea hS (i := 3) rfl rfl rfl sz_25 rfl rfl rfl ?_
  intro w4 hS hE
  refine wpl_nil ?_
  refine thn ?_
  refine k_seq ?_
  have hSb := hS
  apply k_draw (m := 3) (ss := [.val _, .val _, .val _]) mixed rfl (by kernel_rfl) (by kernel_rfl) rfl rfl rfl
  · refine ⟨?_, ?_, ?_, trivial⟩
    · -- op 0
      intro jnk vals lo hi w5 hE0 hd
      have hS := hS.step hE0
      refine r_field rfl fl_25_0 rfl rfl ?_
      refine wpl_end ?_
      exact ⟨rfl, Ext.refl _ _, rfl⟩
    · -- op 1
      intro jnk vals lo hi w6 hE0 hd
      have hS := hS.step hE0
      refine r_load rfl (ld_bs hS (i := 3) rfl rfl sc_22) rfl rfl ?_
      refine wpl_end ?_
      exact ⟨rfl, Ext.refl _ _, rfl⟩
    · -- op 2
      intro jnk vals lo hi w7 hE0 hd
      have hS := hS.step hE0
      refine r_call rfl (c25 _ _ _) rfl rfl ?_
      rintro _ w8 ⟨rfl, hE⟩
      have hS := hS.step hE
      refine wpl_end ?_
      exact ⟨rfl, hE.of_no, rfl⟩
  · intro φ hφ v lo hi S w1 w2 hEa hEb hSb2
    simp at hφ
  intro jnk vals lo hi w9 hE0 hsat hdj hbd
  have hS := hS.step hE0
  refine r_index rfl rfl sl_22 (by omega) rfl rfl ?_
  refine r_field rfl fl_42_0 rfl rfl ?_
  refine r_storea hS (i := 1) rfl rfl rfl sz_35 rfl rfl rfl ?_
  intro w12 hS hE
  refine wpl_nil ?_
  refine thn ?_
  refine k_seq ?_
  refine k_region ?_
  refine r_load rfl (ld_ba hS (i := 3) rfl rfl rfl ag_25) rfl rfl ?_
  refine r_storea hS (i := 0) rfl rfl rfl sz_25 rfl rfl rfl ?_
  intro w13 hS hE
  refine wpl_nil ?_
  refine thn ?_
  refine retc (fun _ _ _ => rfl) rfl (ld_ba hS (i := 0) rfl rfl rfl ag_25) ?_
  exact ⟨p1, p2, rfl, hS.ext, hS.get (i := 1) rfl, hS.get (i := 2) rfl, hS.rng (i := 1) rfl, hS.rng (i := 2) rfl, fun h => hS.ne (i := 1) (j := 2) rfl rfl (by decide) _ rfl h⟩

theorem c47 (w : World) : Cv Tryd.prog 47 #[] w (fun v w' => NewBook shortHanks 2 w v w') := by
  refine cv_intro Tryd.func47 rfl rfl Tryd.ntmps47 rfl (by kernel_rfl) ?_
  have hS := St.nil w
  refine k_seq ?_
  refine k_region ?_
  refine r_alloc hS z_25 rfl rfl rfl ?_
  intro b0 w1 hS hE hB0
  refine wpl_nil ?_
  refine thn ?_
  refine k_seq ?_
  refine k_region ?_
  refine r_call rfl (c63 _) rfl rfl ?_
  rintro _ w2 ⟨p1, p2, rfl, hE, hb1, hb2, hr1, hr2, hne⟩
  have hS := NewBook.add hS hE hb1 hb2 hr1 hr2 hne
  refine r_alloc hS z_25 rfl rfl rfl ?_
  intro b1 w3 hS hE hB1
  refine r_storea hS (i := 3) rfl rfl rfl sz_25 rfl rfl rfl ?_
  intro w4 hS hE
  refine wpl_nil ?_
  refine thn ?_
  refine k_seq ?_
  refine k_region ?_
  refine r_field rfl fl_25_0 rfl rfl ?_
  refine r_load rfl (ld_bs hS (i := 3) rfl rfl sc_22) rfl rfl ?_
  refine r_slice2 rfl rfl sl_22 (by omega) rfl rfl ?_
  refine r_field rfl fl_25_0 rfl rfl ?_
  refine r_store1 hS (i := 3) rfl (by conv => lhs; whnf) rfl rfl sz_22 rfl rfl rfl ?_
  intro w6 hS hE
  refine wpl_nil ?_
  refine thn ?_
  refine k_seq ?_
  refine k_region ?_
  refine r_load rfl (ld_ba hS (i := 3) rfl rfl rfl ag_25) rfl rfl ?_
  refine r_storea hS (i := 0) rfl rfl rfl sz_25 rfl rfl rfl ?_
  intro w7 hS hE
  refine wpl_nil ?_
  refine thn ?_
  refine retc (fun _ _ _ => rfl) rfl (ld_ba hS (i := 0) rfl rfl rfl ag_25) ?_
  exact ⟨p1, p2, rfl, hS.ext, hS.get (i := 1) rfl, hS.get (i := 2) rfl, hS.rng (i := 1) rfl, hS.rng (i := 2) rfl, fun h => hS.ne (i := 1) (j := 2) rfl rfl (by decide) _ rfl h⟩
end Go.Proofs.YtofpabocpcfbfaaDoor

/- Walks: T18. -/
namespace Go.Proofs.YtofpabocpcfbfaaDoor
open Go Go.Proofs K

set_option maxHeartbeats 4000000 in
set_option maxRecDepth 100000 in
theorem c15 (w : World) (hP : Parts w) : Cv Tryd.prog 15 #[] w (fun v w' => v = .bool true ∧ Ext no w w') := by
  refine cv_intro Tryd.func15 rfl rfl Tryd.ntmps15 rfl (by kernel_rfl) ?_
  have hS := St.nil w
  refine k_seq ?_
  refine k_region ?_
  refine r_assign (by conv => lhs; whnf) rfl rfl ?_
  refine wpl_nil ?_
  refine thn ?_
  refine k_seq ?_
  refine k_region ?_
  refine r_call rfl (c45 _) rfl rfl ?_
  rintro _ w1 ⟨p1, p2, rfl, hE, hb1, hb2, hr1, hr2, hne⟩
  have hS := NewBook.add hS hE hb1 hb2 hr1 hr2 hne
  refine r_call rfl (c37 _ ownB (some ⟨p1, 0, none⟩) (some ⟨p2, 0, none⟩) 3 3 2 2 (nb_h (hs := ownHanks) (hS.get (i := 0) rfl) (by decide)) (nb_x (hs := ownHorses) (hS.get (i := 1) rfl) (by decide)) (hP.ext hS.ext) 0 1 2) rfl rfl ?_
  rintro _ w2 ⟨hv2, hE⟩
  simp only [e37.1, e37.2] at hv2
  subst hv2
  have hS := hS.step hE
  refine r_move (by conv => lhs; whnf) rfl rfl ?_
  refine r_extract rfl rfl rfl rfl ?_
  refine r_extract rfl rfl rfl rfl ?_
  refine r_extract rfl rfl rfl rfl ?_
  refine r_assign (by conv => lhs; whnf) rfl rfl ?_
  refine r_assign (by conv => lhs; whnf) rfl rfl ?_
  refine r_assign (by conv => lhs; whnf) rfl rfl ?_
  refine wpl_nil ?_
  refine thn ?_
  refine k_seq ?_
  refine k_region ?_
  refine r_call rfl (c45 _) rfl rfl ?_
  rintro _ w3 ⟨p1, p2, rfl, hE, hb1, hb2, hr1, hr2, hne⟩
  have hS := NewBook.add hS hE hb1 hb2 hr1 hr2 hne
  refine r_buildSlice hS us_26 sz_3 z_3 rfl rfl rfl rfl rfl ?_
  intro b23 w4 hS hE hB23
  refine r_call rfl (c18 _ ownB (some ⟨p1, 0, none⟩) (some ⟨p2, 0, none⟩) 3 3 2 2 (nb_h (hs := ownHanks) (hS.get (i := 2) rfl) (by decide)) (nb_x (hs := ownHorses) (hS.get (i := 3) rfl) (by decide)) (hP.ext hS.ext) [2, 2, 1, 1] _ 4 4 (cells_row (vs := [2, 2, 1, 1]) (show Cells _ _ [iv 2, iv 2, iv 1, iv 1] from box_cells (hS.get (i := 4) rfl) 0) (by decide))) rfl rfl ?_
  rintro _ w5 ⟨hv5, hE⟩
  simp only [e18.1, e18.2] at hv5
  subst hv5
  have hS := hS.step hE
  refine r_move (by conv => lhs; whnf) rfl rfl ?_
  refine r_extract rfl rfl rfl rfl ?_
  refine r_extract rfl rfl rfl rfl ?_
  refine r_assign (by conv => lhs; whnf) rfl rfl ?_
  refine r_assign (by conv => lhs; whnf) rfl rfl ?_
  refine wpl_nil ?_
  refine thn ?_
  refine k_seq ?_
  (try simp only [List.nil_append, List.cons_append, List.set_cons_zero, List.set_cons_succ] at hS)
  refine k_region ?_
  refine r_call rfl (c45 _) rfl rfl ?_
  rintro _ w6 ⟨p1, p2, rfl, hE, hb1, hb2, hr1, hr2, hne⟩
  have hS := NewBook.add hS hE hb1 hb2 hr1 hr2 hne
  refine r_buildSlice hS us_26 sz_3 z_3 rfl rfl rfl rfl rfl ?_
  intro b29 w7 hS hE hB29
  refine r_call rfl (c19 _ ownB (some ⟨p1, 0, none⟩) (some ⟨p2, 0, none⟩) 3 3 2 2 (nb_h (hs := ownHanks) (hS.get (i := 5) rfl) (by decide)) (nb_x (hs := ownHorses) (hS.get (i := 6) rfl) (by decide)) (hP.ext hS.ext) [2, 2, 1, 1] _ 4 4 (cells_row (vs := [2, 2, 1, 1]) (show Cells _ _ [iv 2, iv 2, iv 1, iv 1] from box_cells (hS.get (i := 7) rfl) 0) (by decide))) rfl rfl ?_
  rintro _ w8 ⟨hv8, hE⟩
  simp only [e19.1, e19.2] at hv8
  subst hv8
  have hS := hS.step hE
  refine r_move (by conv => lhs; whnf) rfl rfl ?_
  refine r_extract rfl rfl rfl rfl ?_
  refine r_extract rfl rfl rfl rfl ?_
  refine r_alloc hS z_35 rfl rfl rfl ?_
  intro b6 w9 hS hE hB6
  refine r_storea hS (i := 8) rfl rfl rfl sz_35 rfl rfl rfl ?_
  intro w10 hS hE
  refine r_assign (by conv => lhs; whnf) rfl rfl ?_
  refine wpl_nil ?_
  refine thn ?_
  refine k_seq ?_
  (try simp only [List.nil_append, List.cons_append, List.set_cons_zero, List.set_cons_succ] at hS)
  refine k_region ?_
  refine r_call rfl (c45 _) rfl rfl ?_
  rintro _ w11 ⟨p1, p2, rfl, hE, hb1, hb2, hr1, hr2, hne⟩
  have hS := NewBook.add hS hE hb1 hb2 hr1 hr2 hne
  refine r_buildSlice hS us_26 sz_3 z_3 rfl rfl rfl rfl rfl ?_
  intro b35 w12 hS hE hB35
  refine r_call rfl (c20 _ ownB (some ⟨p1, 0, none⟩) (some ⟨p2, 0, none⟩) 3 3 2 2 (nb_h (hs := ownHanks) (hS.get (i := 9) rfl) (by decide)) (nb_x (hs := ownHorses) (hS.get (i := 10) rfl) (by decide)) (hP.ext hS.ext) [0, 0, 1, 1] _ 4 4 (cells_row (vs := [0, 0, 1, 1]) (show Cells _ _ [iv 0, iv 0, iv 1, iv 1] from box_cells (hS.get (i := 11) rfl) 0) (by decide)) 0) rfl rfl ?_
  rintro _ w13 ⟨hv13, hE⟩
  simp only [e20.1, e20.2] at hv13
  subst hv13
  have hS := hS.step hE
  refine r_move (by conv => lhs; whnf) rfl rfl ?_
  refine r_extract rfl rfl rfl rfl ?_
  refine r_extract rfl rfl rfl rfl ?_
  refine r_alloc hS z_35 rfl rfl rfl ?_
  intro b8 w14 hS hE hB8
  refine r_storea hS (i := 12) rfl rfl rfl sz_35 rfl rfl rfl ?_
  intro w15 hS hE
  refine r_assign (by conv => lhs; whnf) rfl rfl ?_
  refine wpl_nil ?_
  refine thn ?_
  refine k_seq ?_
  (try simp only [List.nil_append, List.cons_append, List.set_cons_zero, List.set_cons_succ] at hS)
  refine k_region ?_
  refine r_call rfl (c63 _) rfl rfl ?_
  rintro _ w16 ⟨p1, p2, rfl, hE, hb1, hb2, hr1, hr2, hne⟩
  have hS := NewBook.add hS hE hb1 hb2 hr1 hr2 hne
  refine r_call rfl (c26 _ shortB (some ⟨p1, 0, none⟩) (some ⟨p2, 0, none⟩) 3 3 2 2 (nb_h (hs := shortHanks) (hS.get (i := 13) rfl) (by decide)) (nb_x (hs := ownHorses) (hS.get (i := 14) rfl) (by decide)) (hP.ext hS.ext)) rfl rfl ?_
  rintro _ w17 ⟨ab, cb, hv17, hE, hrd, _⟩
  simp only [e26.1, e26.2, List.length_cons, List.length_nil] at hv17 hrd
  subst hv17
  have hS := hS.step hE
  refine r_move (by conv => lhs; whnf) rfl rfl ?_
  refine r_extract rfl rfl rfl rfl ?_
  refine r_extract rfl rfl rfl rfl ?_
  refine r_assign (by conv => lhs; whnf) rfl rfl ?_
  refine r_assign (by conv => lhs; whnf) rfl rfl ?_
  refine wpl_nil ?_
  refine thn ?_
  refine k_seq ?_
  refine k_seq ?_
  (try simp only [List.nil_append, List.cons_append, List.set_cons_zero, List.set_cons_succ] at hS)
  have hSb := hS
  apply k_draw (m := 46) (ss := (.val _ :: .val _ :: .val _ :: .val _ :: .val _ :: .val _ :: .val _ :: .val _ :: .val _ :: .val _ :: .val _ :: .val _ :: .val _ :: .val _ :: .val _ :: .val _ :: .val _ :: .val _ :: .val _ :: .val _ :: .val _ :: .val _ :: .val _ :: .val _ :: .val _ :: .val _ :: .val _ :: .val _ :: .val _ :: .val _ :: .val _ :: .val _ :: .val _ :: .val _ :: .val _ :: .val _ :: .val _ :: .val _ :: .val _ :: .val _ :: .val _ :: .val _ :: .ex (Row [.int .i64 2, .int .i64 2, .int .i64 0, .int .i64 0] 4 4) :: .val _ :: .val _ :: .val _ :: [])) mixed rfl (by kernel_rfl) (by kernel_rfl) rfl rfl (conB_noSt rfl)
  · refine ⟨?_, ?_, ?_, ?_, ?_, ?_, ?_, ?_, ?_, ?_, ?_, ?_, ?_, ?_, ?_, ?_, ?_, ?_, ?_, ?_, ?_, ?_, ?_, ?_, ?_, ?_, ?_, ?_, ?_, ?_, ?_, ?_, ?_, ?_, ?_, ?_, ?_, ?_, ?_, ?_, ?_, ?_, ?_, ?_, ?_, ?_, trivial⟩
    · -- op 0
      intro jnk vals lo hi w18 hE0 hd
      have hS := hS.step hE0
      refine r_move (by conv => lhs; whnf) rfl rfl ?_
      refine wpl_end ?_
      exact ⟨rfl, Ext.refl _ _, rfl⟩
    · -- op 1
      intro jnk vals lo hi w19 hE0 hd
      have hS := hS.step hE0
      refine r_neq rfl rfl rfl rfl ?_
      refine wpl_end ?_
      exact ⟨rfl, Ext.refl _ _, rfl⟩
    · -- op 2
      intro jnk vals lo hi w20 hE0 hd
      have hS := hS.step hE0
      refine r_move (by conv => lhs; whnf) rfl rfl ?_
      refine wpl_end ?_
      exact ⟨rfl, Ext.refl _ _, rfl⟩
    · -- op 3
      intro jnk vals lo hi w21 hE0 hd
      have hS := hS.step hE0
      refine r_move (by conv => lhs; whnf) rfl rfl ?_
      refine wpl_end ?_
      exact ⟨rfl, Ext.refl _ _, rfl⟩
    · -- op 4
      intro jnk vals lo hi w22 hE0 hd
      have hS := hS.step hE0
      refine r_neq rfl rfl rfl rfl ?_
      refine wpl_end ?_
      exact ⟨rfl, Ext.refl _ _, rfl⟩
    · -- op 5
      intro jnk vals lo hi w23 hE0 hd
      have hS := hS.step hE0
      refine r_pick_f rfl (by conv => lhs; whnf) rfl rfl ?_
      refine wpl_end ?_
      exact ⟨rfl, Ext.refl _ _, rfl⟩
    · -- op 6
      intro jnk vals lo hi w24 hE0 hd
      have hS := hS.step hE0
      refine r_move (by conv => lhs; whnf) rfl rfl ?_
      refine wpl_end ?_
      exact ⟨rfl, Ext.refl _ _, rfl⟩
    · -- op 7
      intro jnk vals lo hi w25 hE0 hd
      have hS := hS.step hE0
      refine r_move (by conv => lhs; whnf) rfl rfl ?_
      refine wpl_end ?_
      exact ⟨rfl, Ext.refl _ _, rfl⟩
    · -- op 8
      intro jnk vals lo hi w26 hE0 hd
      have hS := hS.step hE0
      refine r_neq rfl rfl rfl rfl ?_
      refine wpl_end ?_
      exact ⟨rfl, Ext.refl _ _, rfl⟩
    · -- op 9
      intro jnk vals lo hi w27 hE0 hd
      have hS := hS.step hE0
      refine r_pick_f rfl (by conv => lhs; whnf) rfl rfl ?_
      refine wpl_end ?_
      exact ⟨rfl, Ext.refl _ _, rfl⟩
    · -- op 10
      intro jnk vals lo hi w28 hE0 hd
      have hS := hS.step hE0
      refine r_move (by conv => lhs; whnf) rfl rfl ?_
      refine wpl_end ?_
      exact ⟨rfl, Ext.refl _ _, rfl⟩
    · -- op 11
      intro jnk vals lo hi w29 hE0 hd
      have hS := hS.step hE0
      refine r_move (by conv => lhs; whnf) rfl rfl ?_
      refine wpl_end ?_
      exact ⟨rfl, Ext.refl _ _, rfl⟩
    · -- op 12
      intro jnk vals lo hi w30 hE0 hd
      have hS := hS.step hE0
      refine r_neq rfl rfl rfl rfl ?_
      refine wpl_end ?_
      exact ⟨rfl, Ext.refl _ _, rfl⟩
    · -- op 13
      intro jnk vals lo hi w31 hE0 hd
      have hS := hS.step hE0
      refine r_pick_f rfl (by conv => lhs; whnf) rfl rfl ?_
      refine wpl_end ?_
      exact ⟨rfl, Ext.refl _ _, rfl⟩
    · -- op 14
      intro jnk vals lo hi w32 hE0 hd
      have hS := hS.step hE0
      refine r_move (by conv => lhs; whnf) rfl rfl ?_
      refine wpl_end ?_
      exact ⟨rfl, Ext.refl _ _, rfl⟩
    · -- op 15
      intro jnk vals lo hi w33 hE0 hd
      have hS := hS.step hE0
      refine r_move (by conv => lhs; whnf) rfl rfl ?_
      refine wpl_end ?_
      exact ⟨rfl, Ext.refl _ _, rfl⟩
    · -- op 16
      intro jnk vals lo hi w34 hE0 hd
      have hS := hS.step hE0
      refine r_neq rfl rfl rfl rfl ?_
      refine wpl_end ?_
      exact ⟨rfl, Ext.refl _ _, rfl⟩
    · -- op 17
      intro jnk vals lo hi w35 hE0 hd
      have hS := hS.step hE0
      refine r_pick_f rfl (by conv => lhs; whnf) rfl rfl ?_
      refine wpl_end ?_
      exact ⟨rfl, Ext.refl _ _, rfl⟩
    · -- op 18
      intro jnk vals lo hi w36 hE0 hd
      have hS := hS.step hE0
      refine r_move (by conv => lhs; whnf) rfl rfl ?_
      refine wpl_end ?_
      exact ⟨rfl, Ext.refl _ _, rfl⟩
    · -- op 19
      intro jnk vals lo hi w37 hE0 hd
      have hS := hS.step hE0
      refine r_move (by conv => lhs; whnf) rfl rfl ?_
      refine wpl_end ?_
      exact ⟨rfl, Ext.refl _ _, rfl⟩
    · -- op 20
      intro jnk vals lo hi w38 hE0 hd
      have hS := hS.step hE0
      refine r_neq rfl rfl rfl rfl ?_
      refine wpl_end ?_
      exact ⟨rfl, Ext.refl _ _, rfl⟩
    · -- op 21
      intro jnk vals lo hi w39 hE0 hd
      have hS := hS.step hE0
      refine r_pick_f rfl (by conv => lhs; whnf) rfl rfl ?_
      refine wpl_end ?_
      exact ⟨rfl, Ext.refl _ _, rfl⟩
    · -- op 22
      intro jnk vals lo hi w40 hE0 hd
      have hS := hS.step hE0
      refine r_move (by conv => lhs; whnf) rfl rfl ?_
      refine wpl_end ?_
      exact ⟨rfl, Ext.refl _ _, rfl⟩
    · -- op 23
      intro jnk vals lo hi w41 hE0 hd
      have hS := hS.step hE0
      refine r_move (by conv => lhs; whnf) rfl rfl ?_
      refine wpl_end ?_
      exact ⟨rfl, Ext.refl _ _, rfl⟩
    · -- op 24
      intro jnk vals lo hi w42 hE0 hd
      have hS := hS.step hE0
      refine r_neq rfl rfl rfl rfl ?_
      refine wpl_end ?_
      exact ⟨rfl, Ext.refl _ _, rfl⟩
    · -- op 25
      intro jnk vals lo hi w43 hE0 hd
      have hS := hS.step hE0
      refine r_pick_f rfl (by conv => lhs; whnf) rfl rfl ?_
      refine wpl_end ?_
      exact ⟨rfl, Ext.refl _ _, rfl⟩
    · -- op 26
      intro jnk vals lo hi w44 hE0 hd
      have hS := hS.step hE0
      refine r_move (by conv => lhs; whnf) rfl rfl ?_
      refine wpl_end ?_
      exact ⟨rfl, Ext.refl _ _, rfl⟩
    · -- op 27
      intro jnk vals lo hi w45 hE0 hd
      have hS := hS.step hE0
      refine r_move (by conv => lhs; whnf) rfl rfl ?_
      refine wpl_end ?_
      exact ⟨rfl, Ext.refl _ _, rfl⟩
    · -- op 28
      intro jnk vals lo hi w46 hE0 hd
      have hS := hS.step hE0
      refine r_not rfl rfl rfl ?_
      refine wpl_end ?_
      exact ⟨rfl, Ext.refl _ _, rfl⟩
    · -- op 29
      intro jnk vals lo hi w47 hE0 hd
      have hS := hS.step hE0
      refine r_pick_f rfl (by conv => lhs; whnf) rfl rfl ?_
      refine wpl_end ?_
      exact ⟨rfl, Ext.refl _ _, rfl⟩
    · -- op 30
      intro jnk vals lo hi w48 hE0 hd
      have hS := hS.step hE0
      refine r_move (by conv => lhs; whnf) rfl rfl ?_
      refine wpl_end ?_
      exact ⟨rfl, Ext.refl _ _, rfl⟩
    · -- op 31
      intro jnk vals lo hi w49 hE0 hd
      have hS := hS.step hE0
      refine r_load rfl (ld_ba hS (i := 8) rfl rfl rfl ag_35) rfl rfl ?_
      refine wpl_end ?_
      exact ⟨rfl, Ext.refl _ _, rfl⟩
    · -- op 32
      intro jnk vals lo hi w50 hE0 hd
      have hS := hS.step hE0
      refine r_call rfl (c25 _ _ _) rfl rfl ?_
      rintro _ w51 ⟨rfl, hE⟩
      have hS := hS.step hE
      refine wpl_end ?_
      exact ⟨rfl, hE.of_no, rfl⟩
    · -- op 33
      intro jnk vals lo hi w52 hE0 hd
      have hS := hS.step hE0
      refine r_neqs (a := [10, 13]) (b := [10, 13]) ik_35 eg_35 rfl rfl rfl rfl rfl rfl ?_
      refine wpl_end ?_
      exact ⟨rfl, Ext.refl _ _, rfl⟩
    · -- op 34
      intro jnk vals lo hi w54 hE0 hd
      have hS := hS.step hE0
      refine r_pick_f rfl (by conv => lhs; whnf) rfl rfl ?_
      refine wpl_end ?_
      exact ⟨rfl, Ext.refl _ _, rfl⟩
    · -- op 35
      intro jnk vals lo hi w55 hE0 hd
      have hS := hS.step hE0
      refine r_move (by conv => lhs; whnf) rfl rfl ?_
      refine wpl_end ?_
      exact ⟨rfl, Ext.refl _ _, rfl⟩
    · -- op 36
      intro jnk vals lo hi w56 hE0 hd
      have hS := hS.step hE0
      refine r_load rfl (ld_ba hS (i := 12) rfl rfl rfl ag_35) rfl rfl ?_
      refine wpl_end ?_
      exact ⟨rfl, Ext.refl _ _, rfl⟩
    · -- op 37
      intro jnk vals lo hi w57 hE0 hd
      have hS := hS.step hE0
      refine r_call rfl (c25 _ _ _) rfl rfl ?_
      rintro _ w58 ⟨rfl, hE⟩
      have hS := hS.step hE
      refine wpl_end ?_
      exact ⟨rfl, hE.of_no, rfl⟩
    · -- op 38
      intro jnk vals lo hi w59 hE0 hd
      have hS := hS.step hE0
      refine r_neqs (a := [0, 1]) (b := [0, 1]) ik_35 eg_35 rfl rfl rfl rfl rfl rfl ?_
      refine wpl_end ?_
      exact ⟨rfl, Ext.refl _ _, rfl⟩
    · -- op 39
      intro jnk vals lo hi w61 hE0 hd
      have hS := hS.step hE0
      refine r_pick_f rfl (by conv => lhs; whnf) rfl rfl ?_
      refine wpl_end ?_
      exact ⟨rfl, Ext.refl _ _, rfl⟩
    · -- op 40
      intro jnk vals lo hi w62 hE0 hd
      have hS := hS.step hE0
      refine r_move (by conv => lhs; whnf) rfl rfl ?_
      refine wpl_end ?_
      exact ⟨rfl, Ext.refl _ _, rfl⟩
    · -- op 41
      intro jnk vals lo hi w63 hE0 hd
      have hS := hS.step hE0
      refine r_move (by conv => lhs; whnf) rfl rfl ?_
      refine wpl_end ?_
      exact ⟨rfl, Ext.refl _ _, rfl⟩
    · -- op 42
      intro jnk vals lo hi w64 hE0 hd
      have hS := hS.step hE0
      refine r_buildSlice hS us_26 sz_3 z_3 rfl rfl rfl rfl rfl ?_
      intro b86 w65 hS hE hB86
      refine wpl_end ?_
      exact ⟨rfl, hE.of_no, row_build (hS.get (i := 15) rfl) hB86⟩
    · -- op 43
      intro jnk vals lo hi w66 hE0 hd
      have hS := hS.step hE0
      obtain ⟨r42, hv42, hl42, hh42, hr42⟩ := hd 42 (by decide) rfl
      rw [vset_eq hv42]
      refine r_call rfl (c44 _ [2, 2, 0, 0] [2, 2, 0, 0] _ (some ⟨r42, 0, none⟩) 4 _ 4 4 (hrd.ext hE0) (cells_row (vs := [2, 2, 0, 0]) hr42 (by simp))) rfl rfl ?_
      rintro _ w67 ⟨rfl, hE⟩
      have hS := hS.step hE
      refine wpl_end ?_
      exact ⟨rfl, hE.of_no, rfl⟩
    · -- op 44
      intro jnk vals lo hi w68 hE0 hd
      have hS := hS.step hE0
      refine r_not rfl rfl rfl ?_
      refine wpl_end ?_
      exact ⟨rfl, Ext.refl _ _, rfl⟩
    · -- op 45
      intro jnk vals lo hi w69 hE0 hd
      have hS := hS.step hE0
      refine r_pick_f rfl (by conv => lhs; whnf) rfl rfl ?_
      refine wpl_end ?_
      exact ⟨rfl, Ext.refl _ _, rfl⟩
  · intro φ hφ v lo hi S w1 w2 hEa hEb hSb2
    rcases hφ with hφ | ⟨j, hφ⟩
    · simp at hφ
      subst hφ
      all_goals first | exact mk_stays hEa hEb hSb2 | exact row_stays hEa hEb hSb2 | exact rown_stays hEa hEb hSb2
    · simp at hφ
  intro jnk vals lo hi w70 hE0 hsat hdj hbd
  have hS := hS.step hE0
  obtain ⟨r42, hv42, hl42, hh42, hr42⟩ := hsat 42 (by decide) rfl
  rw [vset_eq hv42]
  refine wpl_nil ?_
  refine thn ?_
  refine k_cond_f rfl ?_
  refine k_skip ?_
  refine thn ?_
  refine k_seq ?_
  (try simp only [List.nil_append, List.cons_append, List.set_cons_zero, List.set_cons_succ] at hS)
  refine k_region ?_
  refine r_call rfl (c47 _) rfl rfl ?_
  rintro _ w71 ⟨p1, p2, rfl, hE, hb1, hb2, hr1, hr2, hne⟩
  have hS := NewBook.add hS hE hb1 hb2 hr1 hr2 hne
  refine r_call rfl (c27 _ poorB (some ⟨p1, 0, none⟩) (some ⟨p2, 0, none⟩) 2 3 2 2 ((nb_h (hs := shortHanks) (hS.get (i := 15) rfl) (by decide)).take (m := 2) (by decide)) (nb_x (hs := ownHorses) (hS.get (i := 16) rfl) (by decide)) (hP.ext hS.ext)) rfl rfl ?_
  rintro _ w72 ⟨ak, ck, hv72, hE, hrk, _⟩
  simp only [e27.1, e27.2, List.length_cons, List.length_nil] at hv72 hrk
  subst hv72
  have hS := hS.step hE
  refine r_move (by conv => lhs; whnf) rfl rfl ?_
  refine r_extract rfl rfl rfl rfl ?_
  refine r_extract rfl rfl rfl rfl ?_
  refine r_assign (by conv => lhs; whnf) rfl rfl ?_
  refine r_assign (by conv => lhs; whnf) rfl rfl ?_
  refine wpl_nil ?_
  refine thn ?_
  refine k_seq ?_
  (try simp only [List.nil_append, List.cons_append, List.set_cons_zero, List.set_cons_succ] at hS)
  refine k_region ?_
  refine r_call rfl (c47 _) rfl rfl ?_
  rintro _ w73 ⟨p1, p2, rfl, hE, hb1, hb2, hr1, hr2, hne⟩
  have hS := NewBook.add hS hE hb1 hb2 hr1 hr2 hne
  have hrk := hrk.ext hE
  refine r_call rfl (c33 _ poorB (some ⟨p1, 0, none⟩) (some ⟨p2, 0, none⟩) 2 3 2 2 ((nb_h (hs := shortHanks) (hS.get (i := 17) rfl) (by decide)).take (m := 2) (by decide)) (nb_x (hs := ownHorses) (hS.get (i := 18) rfl) (by decide)) (hP.ext hS.ext) (by decide) 6) rfl rfl ?_
  rintro _ w74 ⟨hv74, hE⟩
  simp only [e33.1, e33.2] at hv74
  subst hv74
  have hS := hS.step hE
  have hrk := hrk.ext hE
  refine r_move (by conv => lhs; whnf) rfl rfl ?_
  refine r_extract rfl rfl rfl rfl ?_
  refine r_extract rfl rfl rfl rfl ?_
  refine r_assign (by conv => lhs; whnf) rfl rfl ?_
  refine r_assign (by conv => lhs; whnf) rfl rfl ?_
  refine wpl_nil ?_
  refine thn ?_
  refine k_seq ?_
  (try simp only [List.nil_append, List.cons_append, List.set_cons_zero, List.set_cons_succ] at hS)
  refine k_region ?_
  refine r_call rfl (c47 _) rfl rfl ?_
  rintro _ w75 ⟨p1, p2, rfl, hE, hb1, hb2, hr1, hr2, hne⟩
  have hS := NewBook.add hS hE hb1 hb2 hr1 hr2 hne
  have hrk := hrk.ext hE
  refine r_call rfl (c36 _ poorB (some ⟨p1, 0, none⟩) (some ⟨p2, 0, none⟩) 2 3 2 2 ((nb_h (hs := shortHanks) (hS.get (i := 19) rfl) (by decide)).take (m := 2) (by decide)) (nb_x (hs := ownHorses) (hS.get (i := 20) rfl) (by decide)) (hP.ext hS.ext)) rfl rfl ?_
  rintro _ w76 ⟨hv76, hE⟩
  simp only [e36.1, e36.2] at hv76
  subst hv76
  have hS := hS.step hE
  have hrk := hrk.ext hE
  refine r_move (by conv => lhs; whnf) rfl rfl ?_
  refine r_extract rfl rfl rfl rfl ?_
  refine r_extract rfl rfl rfl rfl ?_
  refine r_assign (by conv => lhs; whnf) rfl rfl ?_
  refine r_assign (by conv => lhs; whnf) rfl rfl ?_
  refine wpl_nil ?_
  refine thn ?_
  refine k_seq ?_
  (try simp only [List.nil_append, List.cons_append, List.set_cons_zero, List.set_cons_succ] at hS)
  refine k_region ?_
  refine r_move (by conv => lhs; whnf) rfl rfl ?_
  refine r_eql rfl rfl rfl rfl ?_
  refine r_move (by conv => lhs; whnf) rfl rfl ?_
  refine r_move (by conv => lhs; whnf) rfl rfl ?_
  refine r_eql rfl rfl rfl rfl ?_
  refine r_pick_t rfl (by conv => lhs; whnf) rfl rfl ?_
  refine r_move (by conv => lhs; whnf) rfl rfl ?_
  refine r_move (by conv => lhs; whnf) rfl rfl ?_
  refine r_eql rfl rfl rfl rfl ?_
  refine r_pick_t rfl (by conv => lhs; whnf) rfl rfl ?_
  refine r_move (by conv => lhs; whnf) rfl rfl ?_
  refine r_move (by conv => lhs; whnf) rfl rfl ?_
  refine r_buildSlice hS us_26 sz_3 z_3 rfl rfl rfl rfl rfl ?_
  intro b117 w77 hS hE hB117
  have hE117 := hE
  refine r_call rfl (c44 _ [0] [0] _ _ 1 _ 1 1 (hrk.ext hE117) (cells_row (vs := [0]) (show Cells _ _ [iv 0] from box_cells (hS.get (i := 21) rfl) 0) (by decide))) rfl rfl ?_
  rintro _ w78 ⟨rfl, hE⟩
  have hS := hS.step hE
  refine r_pick_t rfl (by conv => lhs; whnf) rfl rfl ?_
  refine r_move (by conv => lhs; whnf) rfl rfl ?_
  refine r_move (by conv => lhs; whnf) rfl rfl ?_
  refine r_eql rfl rfl rfl rfl ?_
  refine r_pick_t rfl (by conv => lhs; whnf) rfl rfl ?_
  refine r_move (by conv => lhs; whnf) rfl rfl ?_
  refine r_move (by conv => lhs; whnf) rfl rfl ?_
  refine r_pick_t rfl (by conv => lhs; whnf) rfl rfl ?_
  refine r_assign (by conv => lhs; whnf) rfl rfl ?_
  refine wpl_nil ?_
  refine thn ?_
  refine ret1 (fun _ _ _ => rfl) (by conv => lhs; whnf) ?_
  exact ⟨rfl, hS.ext⟩
end Go.Proofs.YtofpabocpcfbfaaDoor

/- Walks: T19. -/
namespace Go.Proofs.YtofpabocpcfbfaaDoor
open Go Go.Proofs K

theorem c16 (w : World) (A1 A2 : Option Addr) (n1 c1 n2 c2 : Nat) (dk nr mt : Int) (bits : List Int) (Ab : Option Addr) (nb cb : Nat) (hbits : RdInts w Ab nb bits) (hn1 : n1 ≤ 100) (hn2 : n2 ≤ 100) : Cv Tryd.prog 16 #[.agg #[.slice A1 n1 c1, .slice A2 n2 c2, .int .i64 dk, .int .i64 nr, .int .i64 mt], .slice Ab nb cb] w (fun v w' => ∃ a c, v = .slice a (2 * n2) c ∧ Ext no w w' ∧ (row 3 1 a (2 * n2) c ((drawnTo bits n1 (2 * n2)).map iv)).ok w' ∧ (∀ z, a = some ⟨z, 0, none⟩ → w.heap.size ≤ z ∧ z < w'.heap.size)) := by
  refine cv_intro Tryd.func16 rfl rfl Tryd.ntmps16 rfl (by kernel_rfl) ?_
  have hS := St.nil w
  refine k_seq ?_
  refine k_region ?_
  refine r_boxa hS rfl rfl rfl ?_
  intro b2 w1 hS hE hB2
  refine r_assign (by conv => lhs; whnf) rfl rfl ?_
  refine wpl_nil ?_
  refine thn ?_
  refine k_seq ?_
  refine k_region ?_
  refine r_buildSlice hS us_26 sz_3 z_3 rfl rfl rfl rfl rfl ?_
  intro b7 w2 hS hE hB7
  refine r_assign (by conv => lhs; whnf) rfl rfl ?_
  refine wpl_nil ?_
  refine thn ?_
  refine k_seq ?_
  refine k_seq ?_
  (try simp only [List.nil_append, List.cons_append, List.set_cons_zero, List.set_cons_succ] at hS)
  refine k_region ?_
  refine r_assign (by conv => lhs; whnf) rfl rfl ?_
  refine wpl_nil ?_
  refine thn ?_
  refine k_block ?_
  refine k_loop (ι := Nat × Option Addr × Nat) [5, 6, 8, 9, 10, 11, 12, 13, 14, 15, 16, 17, 18, 19, 20, 21, 22, 23, 24, 25, 26, 27, 28] (fun q => [(5, .slice q.2.1 q.1 q.2.2), (6, .int .i64 (q.1 : Int))]) (fun q w' => q.1 ≤ 2 * n2 ∧ St (bs w) w' [box b2 25 [.slice A1 n1 c1, .slice A2 n2 c2, .int .i64 dk, .int .i64 nr, .int .i64 mt], row 3 1 q.2.1 q.1 q.2.2 ((drawnTo bits n1 q.1).map iv)]) (fun q => 2 * n2 - q.1) (0, some ⟨b7, 0, none⟩, 0) ⟨rfl, rfl, trivial⟩ ⟨Nat.zero_le _, box_row (n := 0) hS (i := 1) rfl rfl⟩ ?_
  rintro ⟨i, aP, cP⟩ j w2 ⟨hk0, hS⟩
  dsimp only at hk0 hS
  show WP _ _ _ _ _ (mkF _ [(5, .slice aP i cP), (6, .int .i64 (i : Int))]) _ _
  refine k_seq ?_
  refine k_seq ?_
  (try simp only [List.nil_append, List.cons_append, List.set_cons_zero, List.set_cons_succ] at hS)
  refine k_region ?_
  refine r_move (by conv => lhs; whnf) rfl rfl ?_
  refine r_field rfl fl_25_1 rfl rfl ?_
  refine r_load rfl (ld_bs hS (i := 0) rfl rfl sc_23) rfl rfl ?_
  refine r_len rfl sl_23 rfl rfl ?_
  refine r_mul rfl rfl rfl rfl (by omega) ?_
  refine r_lss rfl rfl rfl rfl ?_
  refine wpl_nil ?_
  refine thn ?_
  refine k_cond rfl (fun hc4 => ?_) (fun hc4 => ?_)
  · -- t
    have hc40 := hc4
    (try simp only [decide_eq_true_eq, decide_eq_false_iff_not, Bool.and_eq_true, Bool.and_eq_false_iff, Bool.not_eq_true', Bool.not_eq_false', Int.not_lt, Int.not_le] at hc4)
    have hi : i < 2 * n2 := by omega
    refine k_skip ?_
    refine thn ?_
    refine k_seq ?_
    refine k_block ?_
    (try simp only [List.nil_append, List.cons_append, List.set_cons_zero, List.set_cons_succ] at hS)
    have hSb := hS
    apply k_draw (m := 12) (ss := [.val _, .val _, .val _, .val _, .val _, .val _, .val _, .val _, .val _, .val _, .val _, .ex (Row [.int .i64 (drawnAt bits n1 i)] 1 1)]) mixed rfl (by kernel_rfl) (by kernel_rfl) rfl rfl rfl
    · refine ⟨?_, ?_, ?_, ?_, ?_, ?_, ?_, ?_, ?_, ?_, ?_, ?_, trivial⟩
      · -- op 0
        intro jnk vals lo hi w5 hE0 hd
        have hS := hS.step hE0
        refine r_move (by conv => lhs; whnf) rfl rfl ?_
        refine wpl_end ?_
        exact ⟨rfl, Ext.refl _ _, rfl⟩
      · -- op 1
        intro jnk vals lo hi w6 hE0 hd
        have hS := hS.step hE0
        refine r_move (by conv => lhs; whnf) rfl rfl ?_
        refine wpl_end ?_
        exact ⟨rfl, Ext.refl _ _, rfl⟩
      · -- op 2
        intro jnk vals lo hi w7 hE0 hd
        have hS := hS.step hE0
        refine r_move (by conv => lhs; whnf) rfl rfl ?_
        refine wpl_end ?_
        exact ⟨rfl, Ext.refl _ _, rfl⟩
      · -- op 3
        intro jnk vals lo hi w8 hE0 hd
        have hS := hS.step hE0
        refine r_call rfl (c64 _ bits _ _ _ (hbits.ext hS.ext) _) rfl rfl ?_
        rintro _ w9 ⟨rfl, hE⟩
        have hS := hS.step hE
        refine wpl_end ?_
        exact ⟨rfl, hE.of_no, rfl⟩
      · -- op 4
        intro jnk vals lo hi w10 hE0 hd
        have hS := hS.step hE0
        refine r_move (by conv => lhs; whnf) rfl rfl ?_
        refine wpl_end ?_
        exact ⟨rfl, Ext.refl _ _, rfl⟩
      · -- op 5
        intro jnk vals lo hi w11 hE0 hd
        have hS := hS.step hE0
        refine r_quo2 rfl rfl (by omega) rfl rfl ?_
        refine wpl_end ?_
        exact ⟨rfl, Ext.refl _ _, rfl⟩
      · -- op 6
        intro jnk vals lo hi w13 hE0 hd
        have hS := hS.step hE0
        refine r_addw rfl rfl rfl rfl ?_
        refine wpl_end ?_
        exact ⟨rfl, Ext.refl _ _, rfl⟩
      · -- op 7
        intro jnk vals lo hi w15 hE0 hd
        have hS := hS.step hE0
        refine r_field rfl fl_25_0 rfl rfl ?_
        refine wpl_end ?_
        exact ⟨rfl, Ext.refl _ _, rfl⟩
      · -- op 8
        intro jnk vals lo hi w16 hE0 hd
        have hS := hS.step hE0
        refine r_load rfl (ld_bs hS (i := 0) rfl rfl sc_22) rfl rfl ?_
        refine wpl_end ?_
        exact ⟨rfl, Ext.refl _ _, rfl⟩
      · -- op 9
        intro jnk vals lo hi w17 hE0 hd
        have hS := hS.step hE0
        refine r_len rfl sl_22 rfl rfl ?_
        refine wpl_end ?_
        exact ⟨rfl, Ext.refl _ _, rfl⟩
      · -- op 10
        intro jnk vals lo hi w18 hE0 hd
        have hS := hS.step hE0
        refine r_call rfl (c17 _ _ _ (by omega)) rfl rfl ?_
        rintro _ w19 ⟨rfl, hE⟩
        have hS := hS.step hE
        refine wpl_end ?_
        exact ⟨rfl, hE.of_no, rfl⟩
      · -- op 11
        intro jnk vals lo hi w20 hE0 hd
        have hS := hS.step hE0
        refine r_buildSlice hS us_26 sz_3 z_3 rfl rfl rfl rfl rfl ?_
        intro b27 w21 hS hE hB27
        refine wpl_end ?_
        exact ⟨rfl, hE.of_no, row_build (hS.get (i := 2) rfl) hB27⟩
    · intro φ hφ v lo hi S w1 w2 hEa hEb hSb2
      rcases hφ with hφ | ⟨j, hφ⟩
      · simp at hφ
        subst hφ
        all_goals first | exact mk_stays hEa hEb hSb2 | exact row_stays hEa hEb hSb2 | exact rown_stays hEa hEb hSb2
      · simp at hφ
    intro jnk vals lo hi w22 hE0 hsat hdj hbd
    have hS := hS.step hE0
    obtain ⟨r11, hv11, hl11, hh11, hr11⟩ := hsat 11 (by decide) rfl
    rw [vset_eq hv11]
    refine r_append (vs := [.int .i64 (drawnAt bits n1 i)]) hS rfl rfl (i := 1) rfl us_26 us_26 sz_3 by_3 z_3 rfl (show Src _ (some _) _ from hr11) rfl rfl (by omega) rfl rfl rfl ?_
    intro aP2 cP2 w24 hS hE
    refine r_assign (by conv => lhs; whnf) rfl rfl ?_
    refine wpl_nil ?_
    refine blk_n ?_
    refine thn ?_
    (try simp only [List.nil_append, List.cons_append, List.set_cons_zero, List.set_cons_succ] at hS)
    refine k_region ?_
    refine r_move (by conv => lhs; whnf) rfl rfl ?_
    refine r_add rfl rfl rfl rfl (by omega) ?_
    refine r_assign (by conv => lhs; whnf) rfl rfl ?_
    refine wpl_nil ?_
    refine thn ?_
    have hdm : (drawnTo bits n1 (i + 1)).map iv = (drawnTo bits n1 i).map iv ++ [.int .i64 (drawnAt bits n1 i)] := by rw [drawnTo_succ]; simp
    refine ⟨(i + 1, aP2, cP2), ⟨rfl, rfl, trivial⟩, ?_, ?_, ?_, rfl⟩
    · refine ⟨by dsimp only; omega, ?_⟩
      dsimp only
      rw [hdm]
      exact hS
    · dsimp only; omega
    · (repeat (first | exact Agree.refl _ _ | exact agree_hv rfl (Agree.refl _ _) | refine agree_upd rfl ?_ | refine agree_mkF rfl ?_ | refine agree_hv rfl ?_))
  · -- f
    have hc40 := hc4
    (try simp only [decide_eq_true_eq, decide_eq_false_iff_not, Bool.and_eq_true, Bool.and_eq_false_iff, Bool.not_eq_true', Bool.not_eq_false', Int.not_lt, Int.not_le] at hc4)
    have hi : i = 2 * n2 := by omega
    refine k_exit ?_
    refine thn_e ?_
    refine thn_e ?_
    refine blk_e ?_
    refine thn ?_
    refine k_seq ?_
    (try simp only [List.nil_append, List.cons_append, List.set_cons_zero, List.set_cons_succ] at hS)
    refine k_region ?_
    refine r_move (by conv => lhs; whnf) rfl rfl ?_
    refine r_assign (by conv => lhs; whnf) rfl rfl ?_
    refine wpl_nil ?_
    refine thn ?_
    refine ret1 (fun _ _ _ => rfl) (by conv => lhs; whnf) ?_
    subst hi
    exact ⟨aP, cP, rfl, hS.ext, hS.get (i := 1) rfl, fun z hz => ⟨(hS.lo _ (mem_of_get (i := 1) rfl) z hz).1, (hS.lo _ (mem_of_get (i := 1) rfl) z hz).2.2⟩⟩
end Go.Proofs.YtofpabocpcfbfaaDoor

/- Walks: T20. -/
namespace Go.Proofs.YtofpabocpcfbfaaDoor
open Go Go.Proofs K

theorem c22 (w : World) (b : HBook) (A1 A2 : Option Addr) (n1 c1 n2 c2 : Nat) (h1 : RdRow Hank.enc 4 w A1 n1 b.hanks) (h2 : RdRow Horse.enc 3 w A2 n2 b.horses) (plan : List Int) (Ap : Option Addr) (np cp : Nat) (hp : RdInts w Ap np plan) (hg : GoodB b) (hip : b.isPlan plan = true) : Cv Tryd.prog 22 #[.agg #[.slice A1 n1 c1, .slice A2 n2 c2, .int .i64 b.dark, .int .i64 b.near, .int .i64 b.mat], .slice Ap np cp] w (fun v w' => ∃ q, v = .slice (some ⟨q, 0, none⟩) n1 n1 ∧ Ext no w w' ∧ w'.heap[q]? = some (.cells ((b.spentTo plan b.horses.length).map iv).toArray 3 (0, 0)) ∧ (w.heap.size ≤ q ∧ q < w'.heap.size)) := by
  refine cv_intro Tryd.func22 rfl rfl Tryd.ntmps22 rfl (by kernel_rfl) ?_
  have hS := St.nil w
  have hl1 := h1.1
  have hl2 := h2.1
  have hpl := hp.1
  have hpb := hp.2.1
  have hil := b.isPlan_len hip
  have hg1 := hg.l1
  have hg2 := hg.l2
  refine k_seq ?_
  refine k_region ?_
  refine r_boxa hS rfl rfl rfl ?_
  intro b2 w1 hS hE hB2
  refine r_assign (by conv => lhs; whnf) rfl rfl ?_
  refine wpl_nil ?_
  refine thn ?_
  refine k_seq ?_
  refine k_region ?_
  refine r_field rfl fl_25_0 rfl rfl ?_
  refine r_load rfl (ld_bs hS (i := 0) rfl rfl sc_22) rfl rfl ?_
  refine r_len rfl sl_22 rfl rfl ?_
  refine r_makeInts hS rfl rfl us_26 sz_3 by_3 z_3 (by omega) rfl rfl ?_
  intro b10 w3 hS hE hB10
  refine r_assign (by conv => lhs; whnf) rfl rfl ?_
  refine wpl_nil ?_
  refine thn ?_
  refine k_seq ?_
  refine k_seq ?_
  refine k_region ?_
  refine r_assign (by conv => lhs; whnf) rfl rfl ?_
  refine wpl_nil ?_
  refine thn ?_
  refine k_block ?_
  refine k_loop (ι := Nat) [6, 11, 12, 13, 14, 15, 16, 17, 18, 19, 20, 21, 22, 23, 24, 25, 26, 27, 28, 29, 30, 31, 32, 33, 34, 35, 36, 37, 38, 39, 40, 41, 42, 43, 44, 45, 46, 47, 48, 49, 50] (fun n => [(6, .int .i64 (n : Int))]) (fun n w' => n ≤ n2 ∧ St (bs w) w' [box b2 25 [.slice A1 n1 c1, .slice A2 n2 c2, .int .i64 b.dark, .int .i64 b.near, .int .i64 b.mat], box b10 3 ((b.spentTo plan n).map iv)]) (fun n => n2 - n) 0 ⟨rfl, trivial⟩ ⟨Nat.zero_le _, (by have h0 : b.spentTo plan 0 = List.replicate n1 0 := (by unfold HBook.spentTo; rw [hl1]; rfl); rw [h0]; exact hS)⟩ ?_
  rintro n j w2 ⟨hk0, hS⟩
  refine k_seq ?_
  refine k_seq ?_
  refine k_region ?_
  refine r_move (by conv => lhs; whnf) rfl rfl ?_
  refine r_field rfl fl_25_1 rfl rfl ?_
  refine r_load rfl (ld_bs hS (i := 0) rfl rfl sc_23) rfl rfl ?_
  refine r_len rfl sl_23 rfl rfl ?_
  refine r_lss rfl rfl rfl rfl ?_
  refine wpl_nil ?_
  refine thn ?_
  refine k_cond rfl (fun hc5 => ?_) (fun hc5 => ?_)
  · -- t
    have hc50 := hc5
    (try simp only [decide_eq_true_eq, decide_eq_false_iff_not, Bool.and_eq_true, Bool.and_eq_false_iff, Bool.not_eq_true', Bool.not_eq_false', Int.not_lt, Int.not_le] at hc5)
    have hk : n < n2 := by omega
    obtain ⟨ap, hAp, hcp⟩ := hp.at (d := 0) (k := 2 * (n : Int)) (by omega)
    obtain ⟨aq, hAq, hcq⟩ := hp.at (d := 0) (k := 2 * (n : Int) + 1) (by omega)
    have hpx := b.isPlan_at hip (n := (2 * (n : Int)).toNat) (by omega)
    have hpy := b.isPlan_at hip (n := (2 * (n : Int) + 1).toNat) (by omega)
    obtain ⟨a2, hA2, hc2⟩ := h2.nat (d := Horse0) hk
    have hx := hg.horse _ (getD_mem (d := Horse0) (k := n) (l := b.horses) (by omega))
    have hv := b.spentTo_ok hg (plan := plan) (n := n) (by omega)
    have hvb := hv.bd (plan.getD (2 * (n : Int)).toNat 0).toNat
    have hv1 := hv.addAt (k := plan.getD (2 * (n : Int)).toNat 0) (x := (b.horses.getD n Horse0).mane) (by omega)
    have hv1b := hv1.bd (plan.getD (2 * (n : Int) + 1).toNat 0).toNat
    refine k_skip ?_
    refine thn ?_
    refine k_seq ?_
    refine k_block ?_
    refine k_seq ?_
    have hSb := hS
    apply k_draw (m := 14) (ss := [.val _, .val _, .val _, .val _, .val _, .val _, .val _, .val _, .val _, .val _, .val _, .val _, .val _, .val _]) mixed rfl (by kernel_rfl) (by kernel_rfl) rfl rfl rfl
    · refine ⟨?_, ?_, ?_, ?_, ?_, ?_, ?_, ?_, ?_, ?_, ?_, ?_, ?_, ?_, trivial⟩
      · -- op 0
        intro jnk vals lo hi w6 hE0 hd
        have hS := hS.step hE0
        refine r_move (by conv => lhs; whnf) rfl rfl ?_
        refine wpl_end ?_
        exact ⟨rfl, Ext.refl _ _, rfl⟩
      · -- op 1
        intro jnk vals lo hi w7 hE0 hd
        have hS := hS.step hE0
        refine r_move (by conv => lhs; whnf) rfl rfl ?_
        refine wpl_end ?_
        exact ⟨rfl, Ext.refl _ _, rfl⟩
      · -- op 2
        intro jnk vals lo hi w8 hE0 hd
        have hS := hS.step hE0
        refine r_move (by conv => lhs; whnf) rfl rfl ?_
        refine wpl_end ?_
        exact ⟨rfl, Ext.refl _ _, rfl⟩
      · -- op 3
        intro jnk vals lo hi w9 hE0 hd
        have hS := hS.step hE0
        refine r_mul rfl rfl rfl rfl (by omega) ?_
        refine wpl_end ?_
        exact ⟨rfl, Ext.refl _ _, rfl⟩
      · -- op 4
        intro jnk vals lo hi w10 hE0 hd
        have hS := hS.step hE0
        refine r_index (congrArg (fun A => Value.slice A np cp) hAp) rfl sl_26 (by omega) rfl rfl ?_
        refine wpl_end ?_
        exact ⟨rfl, Ext.refl _ _, rfl⟩
      · -- op 5
        intro jnk vals lo hi w12 hE0 hd
        have hS := hS.step hE0
        refine r_load rfl (ld_sc ((hcp.ext hS.ext) 0 _ rfl) sc_3) rfl rfl ?_
        refine wpl_end ?_
        exact ⟨rfl, Ext.refl _ _, rfl⟩
      · -- op 6
        intro jnk vals lo hi w14 hE0 hd
        have hS := hS.step hE0
        refine r_index rfl rfl sl_26 (by omega) rfl rfl ?_
        refine wpl_end ?_
        exact ⟨rfl, Ext.refl _ _, rfl⟩
      · -- op 7
        intro jnk vals lo hi w16 hE0 hd
        have hS := hS.step hE0
        refine r_load rfl (ld_arr (u := (b.spentTo plan n)) (hS.get (i := 1) rfl) sc_3 (by rw [hv.len]; omega)) rfl rfl ?_
        refine wpl_end ?_
        exact ⟨rfl, Ext.refl _ _, rfl⟩
      · -- op 8
        intro jnk vals lo hi w18 hE0 hd
        have hS := hS.step hE0
        refine r_field rfl fl_25_1 rfl rfl ?_
        refine wpl_end ?_
        exact ⟨rfl, Ext.refl _ _, rfl⟩
      · -- op 9
        intro jnk vals lo hi w19 hE0 hd
        have hS := hS.step hE0
        refine r_load rfl (ld_bs hS (i := 0) rfl rfl sc_23) rfl rfl ?_
        refine wpl_end ?_
        exact ⟨rfl, Ext.refl _ _, rfl⟩
      · -- op 10
        intro jnk vals lo hi w20 hE0 hd
        have hS := hS.step hE0
        refine r_move (by conv => lhs; whnf) rfl rfl ?_
        refine wpl_end ?_
        exact ⟨rfl, Ext.refl _ _, rfl⟩
      · -- op 11
        intro jnk vals lo hi w21 hE0 hd
        have hS := hS.step hE0
        refine r_index (congrArg (fun A => Value.slice A n2 c2) hA2) rfl sl_23 (by omega) rfl rfl ?_
        refine wpl_end ?_
        exact ⟨rfl, Ext.refl _ _, rfl⟩
      · -- op 12
        intro jnk vals lo hi w23 hE0 hd
        have hS := hS.step hE0
        refine r_field rfl fl_65_0 rfl rfl ?_
        refine wpl_end ?_
        exact ⟨rfl, Ext.refl _ _, rfl⟩
      · -- op 13
        intro jnk vals lo hi w24 hE0 hd
        have hS := hS.step hE0
        refine r_load rfl (ld_sc ((hc2.ext hS.ext) 0 _ rfl) sc_3) rfl rfl ?_
        refine wpl_end ?_
        exact ⟨rfl, Ext.refl _ _, rfl⟩
    · intro φ hφ v lo hi S w1 w2 hEa hEb hSb2
      simp at hφ
    intro jnk vals lo hi w26 hE0 hsat hdj hbd
    have hS := hS.step hE0
    refine r_add rfl rfl rfl rfl (by omega) ?_
    refine r_index rfl rfl sl_26 (by omega) rfl rfl ?_
    refine r_store1 hS (i := 1) at_arr (by conv => lhs; whnf) rfl rfl sz_3 (by have hll := hv.len; (try unfold addAt at hll); rw [Nat.blt_eq, List.length_map, hll]; omega) rfl rfl ?_
    intro w28 hS hE
    rw [set_iv] at hS
    refine wpl_nil ?_
    refine thn ?_
    have hSb := hS
    apply k_draw (m := 15) (ss := [.val _, .val _, .val _, .val _, .val _, .val _, .val _, .val _, .val _, .val _, .val _, .val _, .val _, .val _, .val _]) mixed rfl (by kernel_rfl) (by kernel_rfl) rfl rfl rfl
    · refine ⟨?_, ?_, ?_, ?_, ?_, ?_, ?_, ?_, ?_, ?_, ?_, ?_, ?_, ?_, ?_, trivial⟩
      · -- op 0
        intro jnk vals lo hi w29 hE0 hd
        have hS := hS.step hE0
        refine r_move (by conv => lhs; whnf) rfl rfl ?_
        refine wpl_end ?_
        exact ⟨rfl, Ext.refl _ _, rfl⟩
      · -- op 1
        intro jnk vals lo hi w30 hE0 hd
        have hS := hS.step hE0
        refine r_move (by conv => lhs; whnf) rfl rfl ?_
        refine wpl_end ?_
        exact ⟨rfl, Ext.refl _ _, rfl⟩
      · -- op 2
        intro jnk vals lo hi w31 hE0 hd
        have hS := hS.step hE0
        refine r_move (by conv => lhs; whnf) rfl rfl ?_
        refine wpl_end ?_
        exact ⟨rfl, Ext.refl _ _, rfl⟩
      · -- op 3
        intro jnk vals lo hi w32 hE0 hd
        have hS := hS.step hE0
        refine r_mul rfl rfl rfl rfl (by omega) ?_
        refine wpl_end ?_
        exact ⟨rfl, Ext.refl _ _, rfl⟩
      · -- op 4
        intro jnk vals lo hi w33 hE0 hd
        have hS := hS.step hE0
        refine r_add rfl rfl rfl rfl (by omega) ?_
        refine wpl_end ?_
        exact ⟨rfl, Ext.refl _ _, rfl⟩
      · -- op 5
        intro jnk vals lo hi w34 hE0 hd
        have hS := hS.step hE0
        refine r_index (congrArg (fun A => Value.slice A np cp) hAq) rfl sl_26 (by omega) rfl rfl ?_
        refine wpl_end ?_
        exact ⟨rfl, Ext.refl _ _, rfl⟩
      · -- op 6
        intro jnk vals lo hi w36 hE0 hd
        have hS := hS.step hE0
        refine r_load rfl (ld_sc ((hcq.ext hS.ext) 0 _ rfl) sc_3) rfl rfl ?_
        refine wpl_end ?_
        exact ⟨rfl, Ext.refl _ _, rfl⟩
      · -- op 7
        intro jnk vals lo hi w38 hE0 hd
        have hS := hS.step hE0
        refine r_index rfl rfl sl_26 (by omega) rfl rfl ?_
        refine wpl_end ?_
        exact ⟨rfl, Ext.refl _ _, rfl⟩
      · -- op 8
        intro jnk vals lo hi w40 hE0 hd
        have hS := hS.step hE0
        refine r_load rfl (ld_arr (u := (addAt (b.spentTo plan n) (plan.getD (2 * (n : Int)).toNat 0) (b.horses.getD n Horse0).mane)) (hS.get (i := 1) rfl) sc_3 (by rw [hv1.len]; omega)) rfl rfl ?_
        refine wpl_end ?_
        exact ⟨rfl, Ext.refl _ _, rfl⟩
      · -- op 9
        intro jnk vals lo hi w42 hE0 hd
        have hS := hS.step hE0
        refine r_field rfl fl_25_1 rfl rfl ?_
        refine wpl_end ?_
        exact ⟨rfl, Ext.refl _ _, rfl⟩
      · -- op 10
        intro jnk vals lo hi w43 hE0 hd
        have hS := hS.step hE0
        refine r_load rfl (ld_bs hS (i := 0) rfl rfl sc_23) rfl rfl ?_
        refine wpl_end ?_
        exact ⟨rfl, Ext.refl _ _, rfl⟩
      · -- op 11
        intro jnk vals lo hi w44 hE0 hd
        have hS := hS.step hE0
        refine r_move (by conv => lhs; whnf) rfl rfl ?_
        refine wpl_end ?_
        exact ⟨rfl, Ext.refl _ _, rfl⟩
      · -- op 12
        intro jnk vals lo hi w45 hE0 hd
        have hS := hS.step hE0
        refine r_index (congrArg (fun A => Value.slice A n2 c2) hA2) rfl sl_23 (by omega) rfl rfl ?_
        refine wpl_end ?_
        exact ⟨rfl, Ext.refl _ _, rfl⟩
      · -- op 13
        intro jnk vals lo hi w47 hE0 hd
        have hS := hS.step hE0
        refine r_field rfl fl_65_1 rfl rfl ?_
        refine wpl_end ?_
        exact ⟨rfl, Ext.refl _ _, rfl⟩
      · -- op 14
        intro jnk vals lo hi w48 hE0 hd
        have hS := hS.step hE0
        refine r_load rfl (ld_sc ((hc2.ext hS.ext) 1 _ rfl) sc_3) rfl rfl ?_
        refine wpl_end ?_
        exact ⟨rfl, Ext.refl _ _, rfl⟩
    · intro φ hφ v lo hi S w1 w2 hEa hEb hSb2
      simp at hφ
    intro jnk vals lo hi w50 hE0 hsat hdj hbd
    have hS := hS.step hE0
    refine r_add rfl rfl rfl rfl (by omega) ?_
    refine r_index rfl rfl sl_26 (by omega) rfl rfl ?_
    refine r_store1 hS (i := 1) at_arr (by conv => lhs; whnf) rfl rfl sz_3 (by have hll := hv1.len; (try unfold addAt at hll); rw [Nat.blt_eq, List.length_map, hll]; omega) rfl rfl ?_
    intro w52 hS hE
    rw [set_iv] at hS
    refine wpl_nil ?_
    refine blk_n ?_
    refine thn ?_
    refine k_region ?_
    refine r_move (by conv => lhs; whnf) rfl rfl ?_
    refine r_add rfl rfl rfl rfl (by omega) ?_
    refine r_assign (by conv => lhs; whnf) rfl rfl ?_
    refine wpl_nil ?_
    refine thn ?_
    refine ⟨n + 1, ⟨rfl, trivial⟩, ?_, ?_, ?_, rfl⟩
    · refine ⟨by omega, ?_⟩
      rw [HBook.spentTo_succ]
      exact hS
    · omega
    · (repeat (first | exact Agree.refl _ _ | exact agree_hv rfl (Agree.refl _ _) | refine agree_upd rfl ?_ | refine agree_mkF rfl ?_ | refine agree_hv rfl ?_))
  · -- f
    have hc50 := hc5
    (try simp only [decide_eq_true_eq, decide_eq_false_iff_not, Bool.and_eq_true, Bool.and_eq_false_iff, Bool.not_eq_true', Bool.not_eq_false', Int.not_lt, Int.not_le] at hc5)
    have hk : n = b.horses.length := by omega
    refine k_exit ?_
    refine thn_e ?_
    refine thn_e ?_
    refine blk_e ?_
    refine thn ?_
    refine k_seq ?_
    refine k_region ?_
    refine r_move (by conv => lhs; whnf) rfl rfl ?_
    refine r_assign (by conv => lhs; whnf) rfl rfl ?_
    refine wpl_nil ?_
    refine thn ?_
    refine ret1 (fun _ _ _ => rfl) (by conv => lhs; whnf) ?_
    subst hk
    have hv := b.spentTo_ok hg (plan := plan) (n := b.horses.length) (Nat.le_refl _)
    exact ⟨_, rfl, hS.ext, hS.get (i := 1) rfl, hS.rng (i := 1) rfl⟩
end Go.Proofs.YtofpabocpcfbfaaDoor

/- Walks: T21. -/
namespace Go.Proofs.YtofpabocpcfbfaaDoor
open Go Go.Proofs K

theorem c14 (w : World) (b : HBook) (A1 A2 : Option Addr) (n1 c1 n2 c2 : Nat) (h1 : RdRow Hank.enc 4 w A1 n1 b.hanks) (h2 : RdRow Horse.enc 3 w A2 n2 b.horses) : Cv Tryd.prog 14 #[.agg #[.slice A1 n1 c1, .slice A2 n2 c2, .int .i64 b.dark, .int .i64 b.near, .int .i64 b.mat]] w (fun v w' => v = .bool b.valid ∧ Ext no w w') := by
  refine cv_intro Tryd.func14 rfl rfl Tryd.ntmps14 rfl (by kernel_rfl) ?_
  have hS := St.nil w
  have hl1 := h1.1
  have hl2 := h2.1
  have hb1 := h1.2.1
  have hb2 := h2.2.1
  refine k_seq ?_
  refine k_region ?_
  refine r_boxa hS rfl rfl rfl ?_
  intro b1 w1 hS hE hB1
  refine r_assign (by conv => lhs; whnf) rfl rfl ?_
  refine wpl_nil ?_
  refine thn ?_
  refine k_cut (ι := Unit) [3, 7, 8, 9, 10, 11, 12, 13, 14, 15, 16, 17, 18, 19, 20, 21, 22, 23, 24, 25, 26, 27, 28, 29, 30, 31, 32, 33, 34, 35, 36] (fun _ => [(3, .bool b.valid)]) (fun _ w' => St (bs w) w' [box b1 25 [.slice A1 n1 c1, .slice A2 n2 c2, .int .i64 b.dark, .int .i64 b.near, .int .i64 b.mat]]) ?_ ?_
  · -- piece
    refine k_region ?_
    refine r_load rfl (ld_ba hS (i := 0) rfl rfl rfl ag_25) rfl rfl ?_
    refine r_call rfl (c46 _ b A1 A2 n1 c1 n2 c2 (h1.ext hS.ext) (h2.ext hS.ext)) rfl rfl ?_
    rintro _ w2 ⟨rfl, hE⟩
    have hS := hS.step hE
    refine r_eql rfl rfl rfl rfl ?_
    refine r_moveb rfl rfl rfl (fun hb3 => ?_) (fun hb3 => ?_)
    · -- True
      have hb30 := hb3
      (try simp only [decide_eq_true_eq, decide_eq_false_iff_not, Bool.and_eq_true, Bool.and_eq_false_iff, Bool.not_eq_true', Bool.not_eq_false', Int.not_lt, Int.not_le] at hb3)
      have hv : b.valid = true := by cases h : b.valid with | true => rfl | false => rw [show b.chk = 60 by unfold HBook.chk; rw [h]; rfl] at hb3; exact absurd hb3 (by decide)
      have hg := (GoodB.of_valid hv).1
      have h4 := (GoodB.of_valid hv).2
      have hg2 := hg.l2
      have hgd := hg.dark
      have hgn := hg.near
      have hgm := hg.mat
      refine r_field rfl fl_25_0 rfl rfl ?_
      refine r_load rfl (ld_bs hS (i := 0) rfl rfl sc_22) rfl rfl ?_
      refine r_len rfl sl_22 rfl rfl ?_
      refine r_leqv rfl rfl (decide_eq_true (by omega)) rfl rfl ?_
      refine r_pick_t rfl (by conv => lhs; whnf) rfl rfl ?_
      refine r_move (by conv => lhs; whnf) rfl rfl ?_
      refine r_field rfl fl_25_1 rfl rfl ?_
      refine r_load rfl (ld_bs hS (i := 0) rfl rfl sc_23) rfl rfl ?_
      refine r_len rfl sl_23 rfl rfl ?_
      refine r_leqv rfl rfl (decide_eq_true (by omega)) rfl rfl ?_
      refine r_pick_t rfl (by conv => lhs; whnf) rfl rfl ?_
      refine r_move (by conv => lhs; whnf) rfl rfl ?_
      refine r_field rfl fl_25_2 rfl rfl ?_
      refine r_load rfl (ld_bs hS (i := 0) rfl rfl sc_3) rfl rfl ?_
      refine r_call rfl (c34 _ _ _ _) rfl rfl ?_
      rintro v w6 ⟨hv9, hE⟩
      obtain rfl : v = .bool true := hv9.trans (congrArg Value.bool (by simp only [Bool.and_eq_true, decide_eq_true_eq]; omega))
      have hS := hS.step hE
      refine r_pick_t rfl (by conv => lhs; whnf) rfl rfl ?_
      refine r_move (by conv => lhs; whnf) rfl rfl ?_
      refine r_field rfl fl_25_3 rfl rfl ?_
      refine r_load rfl (ld_bs hS (i := 0) rfl rfl sc_3) rfl rfl ?_
      refine r_call rfl (c34 _ _ _ _) rfl rfl ?_
      rintro v w7 ⟨hv9, hE⟩
      obtain rfl : v = .bool true := hv9.trans (congrArg Value.bool (by simp only [Bool.and_eq_true, decide_eq_true_eq]; omega))
      have hS := hS.step hE
      refine r_pick_t rfl (by conv => lhs; whnf) rfl rfl ?_
      refine r_move (by conv => lhs; whnf) rfl rfl ?_
      refine r_field rfl fl_25_4 rfl rfl ?_
      refine r_load rfl (ld_bs hS (i := 0) rfl rfl sc_3) rfl rfl ?_
      refine r_call rfl (c34 _ _ _ _) rfl rfl ?_
      rintro v w8 ⟨hv9, hE⟩
      obtain rfl : v = .bool true := hv9.trans (congrArg Value.bool (by simp only [Bool.and_eq_true, decide_eq_true_eq]; omega))
      have hS := hS.step hE
      refine r_pick_t rfl (by conv => lhs; whnf) rfl rfl ?_
      refine r_assign (by conv => lhs; whnf) rfl rfl ?_
      refine wpl_nil ?_
      refine thn ?_
      refine ⟨(), ⟨(by rw [hv]; rfl), trivial⟩, ?_, ?_, rfl⟩
      · exact hS
      · (repeat (first | exact Agree.refl _ _ | exact agree_hv rfl (Agree.refl _ _) | refine agree_upd rfl ?_ | refine agree_mkF rfl ?_ | refine agree_hv rfl ?_))
    · -- False
      have hb30 := hb3
      (try simp only [decide_eq_true_eq, decide_eq_false_iff_not, Bool.and_eq_true, Bool.and_eq_false_iff, Bool.not_eq_true', Bool.not_eq_false', Int.not_lt, Int.not_le] at hb3)
      have hv : b.valid = false := by cases h : b.valid with | false => rfl | true => exact absurd (show b.chk = 0 by unfold HBook.chk; rw [h]; rfl) hb3
      refine r_skip rfl rfl ?_
      refine r_skip rfl rfl ?_
      refine r_skip rfl rfl ?_
      refine r_skip rfl rfl ?_
      refine r_pick_f rfl (by conv => lhs; whnf) rfl rfl ?_
      refine r_move (by conv => lhs; whnf) rfl rfl ?_
      refine r_skip rfl rfl ?_
      refine r_skip rfl rfl ?_
      refine r_skip rfl rfl ?_
      refine r_skip rfl rfl ?_
      refine r_pick_f rfl (by conv => lhs; whnf) rfl rfl ?_
      refine r_move (by conv => lhs; whnf) rfl rfl ?_
      refine r_skip rfl rfl ?_
      refine r_skip rfl rfl ?_
      refine r_skip rfl rfl ?_
      refine r_pick_f rfl (by conv => lhs; whnf) rfl rfl ?_
      refine r_move (by conv => lhs; whnf) rfl rfl ?_
      refine r_skip rfl rfl ?_
      refine r_skip rfl rfl ?_
      refine r_skip rfl rfl ?_
      refine r_pick_f rfl (by conv => lhs; whnf) rfl rfl ?_
      refine r_move (by conv => lhs; whnf) rfl rfl ?_
      refine r_skip rfl rfl ?_
      refine r_skip rfl rfl ?_
      refine r_skip rfl rfl ?_
      refine r_pick_f rfl (by conv => lhs; whnf) rfl rfl ?_
      refine r_assign (by conv => lhs; whnf) rfl rfl ?_
      refine wpl_nil ?_
      refine thn ?_
      refine ⟨(), ⟨(by rw [hv]; rfl), trivial⟩, ?_, ?_, rfl⟩
      · exact hS
      · (repeat (first | exact Agree.refl _ _ | exact agree_hv rfl (Agree.refl _ _) | refine agree_upd rfl ?_ | refine agree_mkF rfl ?_ | refine agree_hv rfl ?_))
  · -- rest
    intro _ j9 w9 hS
    refine k_seq ?_
    refine k_seq ?_
    refine k_region ?_
    refine r_assign (by conv => lhs; whnf) rfl rfl ?_
    refine wpl_nil ?_
    refine thn ?_
    refine k_block ?_
    refine k_loop (ι := Nat) [3, 4, 37, 38, 39, 40, 41, 42, 43, 44, 45, 46, 47, 48, 49, 50, 51, 52, 53, 54, 55, 56, 57, 58, 59, 60, 61, 62] (fun k => [(3, .bool b.valid), (4, .int .i64 (k : Int))]) (fun k w' => k ≤ n1 ∧ St (bs w) w' [box b1 25 [.slice A1 n1 c1, .slice A2 n2 c2, .int .i64 b.dark, .int .i64 b.near, .int .i64 b.mat]]) (fun k => n1 - k) 0 ⟨rfl, rfl, trivial⟩ ⟨Nat.zero_le _, hS⟩ ?_
    rintro k j w2 ⟨hk0, hS⟩
    refine k_seq ?_
    refine k_seq ?_
    refine k_region ?_
    refine r_move (by conv => lhs; whnf) rfl rfl ?_
    refine r_moveb rfl rfl rfl (fun hb11 => ?_) (fun hb11 => ?_)
    · -- True
      skip
      have hv := hb11
      have hg := (GoodB.of_valid hv).1
      refine r_move (by conv => lhs; whnf) rfl rfl ?_
      refine r_field rfl fl_25_0 rfl rfl ?_
      refine r_load rfl (ld_bs hS (i := 0) rfl rfl sc_22) rfl rfl ?_
      refine r_len rfl sl_22 rfl rfl ?_
      refine r_lss rfl rfl rfl rfl ?_
      refine r_pick_t rfl (by conv => lhs; whnf) rfl rfl ?_
      refine wpl_nil ?_
      refine thn ?_
      refine k_cond rfl (fun hc12 => ?_) (fun hc12 => ?_)
      · -- t
        have hc120 := hc12
        (try simp only [decide_eq_true_eq, decide_eq_false_iff_not, Bool.and_eq_true, Bool.and_eq_false_iff, Bool.not_eq_true', Bool.not_eq_false', Int.not_lt, Int.not_le] at hc12)
        have hk : k < n1 := by omega
        obtain ⟨a1, hA1, hc1⟩ := h1.nat (d := Hank0) hk
        have hq := hg.hank _ (getD_mem (d := Hank0) (k := k) (by omega))
        refine k_skip ?_
        refine thn ?_
        refine k_seq ?_
        refine k_block ?_
        refine k_region ?_
        refine r_field rfl fl_25_0 rfl rfl ?_
        refine r_load rfl (ld_bs hS (i := 0) rfl rfl sc_22) rfl rfl ?_
        refine r_move (by conv => lhs; whnf) rfl rfl ?_
        refine r_index (congrArg (fun A => Value.slice A n1 c1) hA1) rfl sl_22 (by omega) rfl rfl ?_
        refine r_field rfl fl_42_0 rfl rfl ?_
        refine r_load rfl (ld_ag ((hc1.ext hS.ext).at 0 2) ag_35 rfl) rfl rfl ?_
        refine r_call rfl (c62 _ _ _ _ _) rfl rfl ?_
        rintro v w15 ⟨hv9, hE⟩
        obtain rfl : v = .bool true := hv9.trans (congrArg Value.bool (by simp only [Bool.and_eq_true, decide_eq_true_eq]; omega))
        have hS := hS.step hE
        refine r_move (by conv => lhs; whnf) rfl rfl ?_
        refine r_field rfl fl_25_0 rfl rfl ?_
        refine r_load rfl (ld_bs hS (i := 0) rfl rfl sc_22) rfl rfl ?_
        refine r_move (by conv => lhs; whnf) rfl rfl ?_
        refine r_index (congrArg (fun A => Value.slice A n1 c1) hA1) rfl sl_22 (by omega) rfl rfl ?_
        refine r_field rfl fl_42_1 rfl rfl ?_
        refine r_load rfl (ld_ag ((hc1.ext hS.ext).at 2 2) ag_35 rfl) rfl rfl ?_
        refine r_call rfl (c62 _ _ _ _ _) rfl rfl ?_
        rintro v w18 ⟨hv9, hE⟩
        obtain rfl : v = .bool true := hv9.trans (congrArg Value.bool (by simp only [Bool.and_eq_true, decide_eq_true_eq]; omega))
        have hS := hS.step hE
        refine r_pick_t rfl (by conv => lhs; whnf) rfl rfl ?_
        refine r_assign (by conv => lhs; whnf) rfl rfl ?_
        refine wpl_nil ?_
        refine blk_n ?_
        refine thn ?_
        refine k_region ?_
        refine r_move (by conv => lhs; whnf) rfl rfl ?_
        refine r_add rfl rfl rfl rfl (by omega) ?_
        refine r_assign (by conv => lhs; whnf) rfl rfl ?_
        refine wpl_nil ?_
        refine thn ?_
        refine ⟨k + 1, ⟨(by rw [hv]; rfl), rfl, trivial⟩, ?_, ?_, ?_, rfl⟩
        · exact ⟨by omega, hS.take 1⟩
        · omega
        · (repeat (first | exact Agree.refl _ _ | exact agree_hv rfl (Agree.refl _ _) | refine agree_upd rfl ?_ | refine agree_mkF rfl ?_ | refine agree_hv rfl ?_))
      · -- f
        have hc120 := hc12
        (try simp only [decide_eq_true_eq, decide_eq_false_iff_not, Bool.and_eq_true, Bool.and_eq_false_iff, Bool.not_eq_true', Bool.not_eq_false', Int.not_lt, Int.not_le] at hc12)
        refine k_exit ?_
        refine thn_e ?_
        refine thn_e ?_
        refine blk_e ?_
        refine thn ?_
        refine k_seq ?_
        refine k_seq ?_
        refine k_region ?_
        refine r_assign (by conv => lhs; whnf) rfl rfl ?_
        refine wpl_nil ?_
        refine thn ?_
        refine k_block ?_
        refine k_loop (ι := Nat) [3, 5, 6, 63, 64, 65, 66, 67, 68, 69, 70, 71, 72, 73, 74, 75, 76, 77, 78, 79, 80, 81, 82, 83, 84, 85] (fun k => [(3, .bool b.valid), (5, .int .i64 (k : Int))]) (fun k w' => k ≤ n2 ∧ St (bs w) w' [box b1 25 [.slice A1 n1 c1, .slice A2 n2 c2, .int .i64 b.dark, .int .i64 b.near, .int .i64 b.mat]]) (fun k => n2 - k) 0 ⟨rfl, rfl, trivial⟩ ⟨Nat.zero_le _, hS⟩ ?_
        rintro k j w2 ⟨hk0, hS⟩
        refine k_seq ?_
        refine k_seq ?_
        refine k_region ?_
        refine r_move (by conv => lhs; whnf) rfl rfl ?_
        refine r_moveb rfl rfl rfl (fun hb20 => ?_) (fun hb20 => ?_)
        · -- True
          skip
          have hv := hb20
          have hg := (GoodB.of_valid hv).1
          refine r_move (by conv => lhs; whnf) rfl rfl ?_
          refine r_field rfl fl_25_1 rfl rfl ?_
          refine r_load rfl (ld_bs hS (i := 0) rfl rfl sc_23) rfl rfl ?_
          refine r_len rfl sl_23 rfl rfl ?_
          refine r_lss rfl rfl rfl rfl ?_
          refine r_pick_t rfl (by conv => lhs; whnf) rfl rfl ?_
          refine wpl_nil ?_
          refine thn ?_
          refine k_cond rfl (fun hc21 => ?_) (fun hc21 => ?_)
          · -- t
            have hc210 := hc21
            (try simp only [decide_eq_true_eq, decide_eq_false_iff_not, Bool.and_eq_true, Bool.and_eq_false_iff, Bool.not_eq_true', Bool.not_eq_false', Int.not_lt, Int.not_le] at hc21)
            have hk : k < n2 := by omega
            obtain ⟨a2, hA2, hc2⟩ := h2.nat (d := Horse0) hk
            have hx := hg.horse _ (getD_mem (d := Horse0) (k := k) (by omega))
            refine k_skip ?_
            refine thn ?_
            refine k_seq ?_
            refine k_block ?_
            refine k_seq ?_
            refine k_region ?_
            refine r_field rfl fl_25_1 rfl rfl ?_
            refine r_load rfl (ld_bs hS (i := 0) rfl rfl sc_23) rfl rfl ?_
            refine r_move (by conv => lhs; whnf) rfl rfl ?_
            refine r_index (congrArg (fun A => Value.slice A n2 c2) hA2) rfl sl_23 (by omega) rfl rfl ?_
            refine r_load rfl (ld_ag (hc2.ext hS.ext) ag_65 rfl) rfl rfl ?_
            refine r_alloc hS z_65 rfl rfl rfl ?_
            intro b6 w24 hS hE hB6
            refine r_storea hS (i := 1) rfl rfl rfl sz_65 rfl rfl rfl ?_
            intro w25 hS hE
            refine wpl_nil ?_
            refine thn ?_
            refine k_region ?_
            refine r_field rfl fl_65_0 rfl rfl ?_
            refine r_load rfl (ld_bs hS (i := 1) rfl rfl sc_3) rfl rfl ?_
            refine r_call rfl (c34 _ _ _ _) rfl rfl ?_
            rintro v w26 ⟨hv9, hE⟩
            obtain rfl : v = .bool true := hv9.trans (congrArg Value.bool (by simp only [Bool.and_eq_true, decide_eq_true_eq]; omega))
            have hS := hS.step hE
            refine r_move (by conv => lhs; whnf) rfl rfl ?_
            refine r_field rfl fl_65_1 rfl rfl ?_
            refine r_load rfl (ld_bs hS (i := 1) rfl rfl sc_3) rfl rfl ?_
            refine r_call rfl (c34 _ _ _ _) rfl rfl ?_
            rintro v w27 ⟨hv9, hE⟩
            obtain rfl : v = .bool true := hv9.trans (congrArg Value.bool (by simp only [Bool.and_eq_true, decide_eq_true_eq]; omega))
            have hS := hS.step hE
            refine r_pick_t rfl (by conv => lhs; whnf) rfl rfl ?_
            refine r_assign (by conv => lhs; whnf) rfl rfl ?_
            refine wpl_nil ?_
            refine blk_n ?_
            refine thn ?_
            refine k_region ?_
            refine r_move (by conv => lhs; whnf) rfl rfl ?_
            refine r_add rfl rfl rfl rfl (by omega) ?_
            refine r_assign (by conv => lhs; whnf) rfl rfl ?_
            refine wpl_nil ?_
            refine thn ?_
            refine ⟨k + 1, ⟨(by rw [hv]; rfl), rfl, trivial⟩, ?_, ?_, ?_, rfl⟩
            · exact ⟨by omega, hS.take 1⟩
            · omega
            · (repeat (first | exact Agree.refl _ _ | exact agree_hv rfl (Agree.refl _ _) | refine agree_upd rfl ?_ | refine agree_mkF rfl ?_ | refine agree_hv rfl ?_))
          · -- f
            have hc210 := hc21
            (try simp only [decide_eq_true_eq, decide_eq_false_iff_not, Bool.and_eq_true, Bool.and_eq_false_iff, Bool.not_eq_true', Bool.not_eq_false', Int.not_lt, Int.not_le] at hc21)
            refine k_exit ?_
            refine thn_e ?_
            refine thn_e ?_
            refine blk_e ?_
            refine thn ?_
            refine k_seq ?_
            refine k_region ?_
            refine r_move (by conv => lhs; whnf) rfl rfl ?_
            refine r_assign (by conv => lhs; whnf) rfl rfl ?_
            refine wpl_nil ?_
            refine thn ?_
            refine ret1 (fun _ _ _ => rfl) (by conv => lhs; whnf) ?_
            exact ⟨rfl, hS.ext⟩
        · -- False
          skip
          have hv := hb20
          refine r_skip rfl rfl ?_
          refine r_skip rfl rfl ?_
          refine r_skip rfl rfl ?_
          refine r_skip rfl rfl ?_
          refine r_skip rfl rfl ?_
          refine r_pick_f rfl (by conv => lhs; whnf) rfl rfl ?_
          refine wpl_nil ?_
          refine thn ?_
          refine k_cond_f rfl ?_
          refine k_exit ?_
          refine thn_e ?_
          refine thn_e ?_
          refine blk_e ?_
          refine thn ?_
          refine k_seq ?_
          refine k_region ?_
          refine r_move (by conv => lhs; whnf) rfl rfl ?_
          refine r_assign (by conv => lhs; whnf) rfl rfl ?_
          refine wpl_nil ?_
          refine thn ?_
          refine ret1 (fun _ _ _ => rfl) (by conv => lhs; whnf) ?_
          exact ⟨rfl, hS.ext⟩
    · -- False
      skip
      have hv := hb11
      refine r_skip rfl rfl ?_
      refine r_skip rfl rfl ?_
      refine r_skip rfl rfl ?_
      refine r_skip rfl rfl ?_
      refine r_skip rfl rfl ?_
      refine r_pick_f rfl (by conv => lhs; whnf) rfl rfl ?_
      refine wpl_nil ?_
      refine thn ?_
      refine k_cond_f rfl ?_
      refine k_exit ?_
      refine thn_e ?_
      refine thn_e ?_
      refine blk_e ?_
      refine thn ?_
      refine k_seq ?_
      refine k_seq ?_
      refine k_region ?_
      refine r_assign (by conv => lhs; whnf) rfl rfl ?_
      refine wpl_nil ?_
      refine thn ?_
      refine k_block ?_
      refine k_loop (ι := Nat) [3, 5, 6, 63, 64, 65, 66, 67, 68, 69, 70, 71, 72, 73, 74, 75, 76, 77, 78, 79, 80, 81, 82, 83, 84, 85] (fun k => [(3, .bool b.valid), (5, .int .i64 (k : Int))]) (fun k w' => k ≤ n2 ∧ St (bs w) w' [box b1 25 [.slice A1 n1 c1, .slice A2 n2 c2, .int .i64 b.dark, .int .i64 b.near, .int .i64 b.mat]]) (fun k => n2 - k) 0 ⟨rfl, rfl, trivial⟩ ⟨Nat.zero_le _, hS⟩ ?_
      rintro k j w2 ⟨hk0, hS⟩
      refine k_seq ?_
      refine k_seq ?_
      refine k_region ?_
      refine r_move (by conv => lhs; whnf) rfl rfl ?_
      refine r_moveb rfl rfl rfl (fun hb29 => ?_) (fun hb29 => ?_)
      · -- True
        skip
        have hv := hb29
        have hg := (GoodB.of_valid hv).1
        refine r_move (by conv => lhs; whnf) rfl rfl ?_
        refine r_field rfl fl_25_1 rfl rfl ?_
        refine r_load rfl (ld_bs hS (i := 0) rfl rfl sc_23) rfl rfl ?_
        refine r_len rfl sl_23 rfl rfl ?_
        refine r_lss rfl rfl rfl rfl ?_
        refine r_pick_t rfl (by conv => lhs; whnf) rfl rfl ?_
        refine wpl_nil ?_
        refine thn ?_
        refine k_cond rfl (fun hc30 => ?_) (fun hc30 => ?_)
        · -- t
          have hc300 := hc30
          (try simp only [decide_eq_true_eq, decide_eq_false_iff_not, Bool.and_eq_true, Bool.and_eq_false_iff, Bool.not_eq_true', Bool.not_eq_false', Int.not_lt, Int.not_le] at hc30)
          have hk : k < n2 := by omega
          obtain ⟨a2, hA2, hc2⟩ := h2.nat (d := Horse0) hk
          have hx := hg.horse _ (getD_mem (d := Horse0) (k := k) (by omega))
          refine k_skip ?_
          refine thn ?_
          refine k_seq ?_
          refine k_block ?_
          refine k_seq ?_
          refine k_region ?_
          refine r_field rfl fl_25_1 rfl rfl ?_
          refine r_load rfl (ld_bs hS (i := 0) rfl rfl sc_23) rfl rfl ?_
          refine r_move (by conv => lhs; whnf) rfl rfl ?_
          refine r_index (congrArg (fun A => Value.slice A n2 c2) hA2) rfl sl_23 (by omega) rfl rfl ?_
          refine r_load rfl (ld_ag (hc2.ext hS.ext) ag_65 rfl) rfl rfl ?_
          refine r_alloc hS z_65 rfl rfl rfl ?_
          intro b6 w33 hS hE hB6
          refine r_storea hS (i := 1) rfl rfl rfl sz_65 rfl rfl rfl ?_
          intro w34 hS hE
          refine wpl_nil ?_
          refine thn ?_
          refine k_region ?_
          refine r_field rfl fl_65_0 rfl rfl ?_
          refine r_load rfl (ld_bs hS (i := 1) rfl rfl sc_3) rfl rfl ?_
          refine r_call rfl (c34 _ _ _ _) rfl rfl ?_
          rintro v w35 ⟨hv9, hE⟩
          obtain rfl : v = .bool true := hv9.trans (congrArg Value.bool (by simp only [Bool.and_eq_true, decide_eq_true_eq]; omega))
          have hS := hS.step hE
          refine r_move (by conv => lhs; whnf) rfl rfl ?_
          refine r_field rfl fl_65_1 rfl rfl ?_
          refine r_load rfl (ld_bs hS (i := 1) rfl rfl sc_3) rfl rfl ?_
          refine r_call rfl (c34 _ _ _ _) rfl rfl ?_
          rintro v w36 ⟨hv9, hE⟩
          obtain rfl : v = .bool true := hv9.trans (congrArg Value.bool (by simp only [Bool.and_eq_true, decide_eq_true_eq]; omega))
          have hS := hS.step hE
          refine r_pick_t rfl (by conv => lhs; whnf) rfl rfl ?_
          refine r_assign (by conv => lhs; whnf) rfl rfl ?_
          refine wpl_nil ?_
          refine blk_n ?_
          refine thn ?_
          refine k_region ?_
          refine r_move (by conv => lhs; whnf) rfl rfl ?_
          refine r_add rfl rfl rfl rfl (by omega) ?_
          refine r_assign (by conv => lhs; whnf) rfl rfl ?_
          refine wpl_nil ?_
          refine thn ?_
          refine ⟨k + 1, ⟨(by rw [hv]; rfl), rfl, trivial⟩, ?_, ?_, ?_, rfl⟩
          · exact ⟨by omega, hS.take 1⟩
          · omega
          · (repeat (first | exact Agree.refl _ _ | exact agree_hv rfl (Agree.refl _ _) | refine agree_upd rfl ?_ | refine agree_mkF rfl ?_ | refine agree_hv rfl ?_))
        · -- f
          have hc300 := hc30
          (try simp only [decide_eq_true_eq, decide_eq_false_iff_not, Bool.and_eq_true, Bool.and_eq_false_iff, Bool.not_eq_true', Bool.not_eq_false', Int.not_lt, Int.not_le] at hc30)
          refine k_exit ?_
          refine thn_e ?_
          refine thn_e ?_
          refine blk_e ?_
          refine thn ?_
          refine k_seq ?_
          refine k_region ?_
          refine r_move (by conv => lhs; whnf) rfl rfl ?_
          refine r_assign (by conv => lhs; whnf) rfl rfl ?_
          refine wpl_nil ?_
          refine thn ?_
          refine ret1 (fun _ _ _ => rfl) (by conv => lhs; whnf) ?_
          exact ⟨rfl, hS.ext⟩
      · -- False
        skip
        have hv := hb29
        refine r_skip rfl rfl ?_
        refine r_skip rfl rfl ?_
        refine r_skip rfl rfl ?_
        refine r_skip rfl rfl ?_
        refine r_skip rfl rfl ?_
        refine r_pick_f rfl (by conv => lhs; whnf) rfl rfl ?_
        refine wpl_nil ?_
        refine thn ?_
        refine k_cond_f rfl ?_
        refine k_exit ?_
        refine thn_e ?_
        refine thn_e ?_
        refine blk_e ?_
        refine thn ?_
        refine k_seq ?_
        refine k_region ?_
        refine r_move (by conv => lhs; whnf) rfl rfl ?_
        refine r_assign (by conv => lhs; whnf) rfl rfl ?_
        refine wpl_nil ?_
        refine thn ?_
        refine ret1 (fun _ _ _ => rfl) (by conv => lhs; whnf) ?_
        exact ⟨rfl, hS.ext⟩
end Go.Proofs.YtofpabocpcfbfaaDoor

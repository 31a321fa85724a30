/- Walks: T30. -/
import Derived.Test.YtofpabocpcfbfaaDoorMF
import Derived.Test.YtofpabocpcfbfaaDoorMF2
import Derived.Test.YtofpabocpcfbfaaDoorCT23
import Derived.Test.YtofpabocpcfbfaaDoorMD3
set_option linter.unusedSimpArgs false
set_option linter.unusedVariables false
namespace Go.Proofs.YtofpabocpcfbfaaDoor
open Go Go.Proofs K

set_option maxHeartbeats 4000000 in
set_option maxRecDepth 100000 in
theorem c11 (w : World) (hP : Parts w) : Cv Tryd.prog 11 #[] w (fun v w' => v = .bool true ∧ Ext no w w') := by
  refine cv_intro Tryd.func11 rfl rfl Tryd.ntmps11 rfl (by kernel_rfl) ?_
  have hS := St.nil w
  refine k_seq ?_
  refine k_region ?_
  refine r_assign (by conv => lhs; whnf) rfl rfl ?_
  refine wpl_nil ?_
  refine thn ?_
  refine k_seq ?_
  refine k_region ?_
  refine r_call rfl (c45 _) rfl rfl ?_
  rintro _ w1 ⟨pa1, pb1, rfl, hE, hb1, hb2, hr1, hr2, hne⟩
  have hS := NewBook.add hS hE hb1 hb2 hr1 hr2 hne
  refine r_call rfl (c45 _) rfl rfl ?_
  rintro _ w2 ⟨pa2, pb2, rfl, hE, hb1, hb2, hr1, hr2, hne⟩
  have hS := NewBook.add hS hE hb1 hb2 hr1 hr2 hne
  refine r_call rfl (c45 _) rfl rfl ?_
  rintro _ w3 ⟨pa3, pb3, rfl, hE, hb1, hb2, hr1, hr2, hne⟩
  have hS := NewBook.add hS hE hb1 hb2 hr1 hr2 hne
  refine r_call rfl (c45 _) rfl rfl ?_
  rintro _ w4 ⟨pa4, pb4, rfl, hE, hb1, hb2, hr1, hr2, hne⟩
  have hS := NewBook.add hS hE hb1 hb2 hr1 hr2 hne
  refine r_call rfl (c45 _) rfl rfl ?_
  rintro _ w5 ⟨pa5, pb5, rfl, hE, hb1, hb2, hr1, hr2, hne⟩
  have hS := NewBook.add hS hE hb1 hb2 hr1 hr2 hne
  refine r_call rfl (c45 _) rfl rfl ?_
  rintro _ w6 ⟨pa6, pb6, rfl, hE, hb1, hb2, hr1, hr2, hne⟩
  have hS := NewBook.add hS hE hb1 hb2 hr1 hr2 hne
  refine r_call rfl (c45 _) rfl rfl ?_
  rintro _ w7 ⟨pa7, pb7, rfl, hE, hb1, hb2, hr1, hr2, hne⟩
  have hS := NewBook.add hS hE hb1 hb2 hr1 hr2 hne
  refine r_call rfl (c45 _) rfl rfl ?_
  rintro _ w8 ⟨pa8, pb8, rfl, hE, hb1, hb2, hr1, hr2, hne⟩
  have hS := NewBook.add hS hE hb1 hb2 hr1 hr2 hne
  refine r_call rfl (c45 _) rfl rfl ?_
  rintro _ w9 ⟨pa9, pb9, rfl, hE, hb1, hb2, hr1, hr2, hne⟩
  have hS := NewBook.add hS hE hb1 hb2 hr1 hr2 hne
  refine r_call rfl (c45 _) rfl rfl ?_
  rintro _ w10 ⟨pa10, pb10, rfl, hE, hb1, hb2, hr1, hr2, hne⟩
  have hS := NewBook.add hS hE hb1 hb2 hr1 hr2 hne
  refine r_call rfl (c45 _) rfl rfl ?_
  rintro _ w11 ⟨pa11, pb11, rfl, hE, hb1, hb2, hr1, hr2, hne⟩
  have hS := NewBook.add hS hE hb1 hb2 hr1 hr2 hne
  refine r_buildSlice (cs := .slice (some ⟨pa1, 0, none⟩) 3 3 :: .slice (some ⟨pb1, 0, none⟩) 2 2 :: .int .i64 2 :: .int .i64 1 :: .int .i64 1 :: .slice (some ⟨pa2, 0, none⟩) 3 3 :: .slice (some ⟨pb2, 0, none⟩) 2 2 :: .int .i64 2 :: .int .i64 1 :: .int .i64 1 :: .slice (some ⟨pa3, 0, none⟩) 3 3 :: .slice (some ⟨pb3, 0, none⟩) 2 2 :: .int .i64 2 :: .int .i64 1 :: .int .i64 1 :: .slice (some ⟨pa4, 0, none⟩) 3 3 :: .slice (some ⟨pb4, 0, none⟩) 2 2 :: .int .i64 2 :: .int .i64 1 :: .int .i64 1 :: .slice (some ⟨pa5, 0, none⟩) 3 3 :: .slice (some ⟨pb5, 0, none⟩) 2 2 :: .int .i64 2 :: .int .i64 1 :: .int .i64 1 :: .slice (some ⟨pa6, 0, none⟩) 3 3 :: .slice (some ⟨pb6, 0, none⟩) 2 2 :: .int .i64 2 :: .int .i64 1 :: .int .i64 1 :: .slice (some ⟨pa7, 0, none⟩) 3 3 :: .slice (some ⟨pb7, 0, none⟩) 2 2 :: .int .i64 2 :: .int .i64 1 :: .int .i64 1 :: .slice (some ⟨pa8, 0, none⟩) 3 3 :: .slice (some ⟨pb8, 0, none⟩) 2 2 :: .int .i64 2 :: .int .i64 1 :: .int .i64 1 :: .slice (some ⟨pa9, 0, none⟩) 3 3 :: .slice (some ⟨pb9, 0, none⟩) 2 2 :: .int .i64 2 :: .int .i64 1 :: .int .i64 1 :: .slice (some ⟨pa10, 0, none⟩) 3 3 :: .slice (some ⟨pb10, 0, none⟩) 2 2 :: .int .i64 2 :: .int .i64 1 :: .int .i64 1 :: .slice (some ⟨pa11, 0, none⟩) 3 3 :: .slice (some ⟨pb11, 0, none⟩) 2 2 :: .int .i64 2 :: .int .i64 1 :: .int .i64 1 :: []) hS us_76 sz_25 z_25 rfl rfl (by kernel_rfl) rfl rfl ?_
  intro b71 w12 hS hE hB71
  refine r_assign (by conv => lhs; whnf) rfl rfl ?_
  refine wpl_nil ?_
  refine thn ?_
  refine k_seq ?_
  (try simp only [List.nil_append, List.cons_append, List.set_cons_zero, List.set_cons_succ] at hS)
  have hSb := hS
  apply k_draw0 (m := 8) (ss := [.val _, .val _, .val _, .val _, .val _, .ex (NBA ownHanks 3), .ex (FldA 42 (ownHanks.flatMap Hank.enc) 3 3), .ex (RowN 42 4 6 ((ownHanks.flatMap Hank.enc) ++ (ownHanks.flatMap Hank.enc)))]) mixed rfl (by kernel_rfl) (by kernel_rfl) rfl rfl (conB_noSt rfl) rfl
  · refine ⟨?_, ?_, ?_, ?_, ?_, ?_, ?_, ?_, trivial⟩
    · -- op 0
      intro jnk vals lo hi w13 hE0 hd
      have hS := hS.step hE0
      refine r_move (by conv => lhs; whnf) rfl rfl ?_
      refine wpl_end ?_
      exact ⟨rfl, Ext.refl _ _, rfl⟩
    · -- op 1
      intro jnk vals lo hi w14 hE0 hd
      have hS := hS.step hE0
      refine r_move (by conv => lhs; whnf) rfl rfl ?_
      refine wpl_end ?_
      exact ⟨rfl, Ext.refl _ _, rfl⟩
    · -- op 2
      intro jnk vals lo hi w15 hE0 hd
      have hS := hS.step hE0
      refine r_index rfl rfl sl_76 (by omega) rfl rfl ?_
      refine wpl_end ?_
      exact ⟨rfl, Ext.refl _ _, rfl⟩
    · -- op 3
      intro jnk vals lo hi w16 hE0 hd
      have hS := hS.step hE0
      refine r_field rfl fl_25_0 rfl rfl ?_
      refine wpl_end ?_
      exact ⟨rfl, Ext.refl _ _, rfl⟩
    · -- op 4
      intro jnk vals lo hi w17 hE0 hd
      have hS := hS.step hE0
      refine r_load rfl (ld_bs hS (i := 22) rfl rfl sc_22) rfl rfl ?_
      refine wpl_end ?_
      exact ⟨rfl, Ext.refl _ _, rfl⟩
    · -- op 5
      intro jnk vals lo hi w19 hE0 hd
      have hS := hS.step hE0
      refine r_call rfl (c45 _) rfl rfl ?_
      rintro _ w20 ⟨q1, q2, rfl, hE, hb1, hb2, hr1, hr2, hne⟩
      refine wpl_end ?_
      exact ⟨rfl, hE.of_no, ⟨q1, q2, rfl, hb1, hb2, hr1, hr2, hne⟩⟩
    · -- op 6
      intro jnk vals lo hi w21 hE0 hd
      have hS := hS.step hE0
      obtain ⟨q1, q2, hv5, hb1, hb2, hr1, hr2, hne⟩ := hd 5 (by decide) rfl
      rw [vset_eq hv5]
      refine r_fieldv rfl fs_25_0 rfl rfl rfl ?_
      refine wpl_end ?_
      exact ⟨rfl, Ext.refl _ _, ⟨q1, rfl, hb1⟩⟩
    · -- op 7
      intro jnk vals lo hi w22 hE0 hd
      have hS := hS.step hE0
      obtain ⟨q6, hv6, hb6⟩ := hd 6 (by decide) rfl
      rw [vset_eq hv6]
      refine r_appendn (n := 3) (c := 3) (cs := (ownHanks.flatMap Hank.enc)) hS rfl rfl us_22 us_22 sz_42 by_42 z_42 rfl (show Src _ (some _) _ from box_cells (hS.get (i := 0) rfl) 0) rfl (show Src _ (some _) _ from box_cells hb6 0) rfl (by omega) (by omega) rfl rfl rfl ?_
      intro b7 c7 w24 hS hE hB7
      refine wpl_end ?_
      exact ⟨rfl, hE.of_no, rown_mk (hS.get (i := 23) rfl) rfl rfl hB7⟩
  · intro φ hφ v lo hi w1 w2 hEa hEb
    simp at hφ
    rcases hφ with rfl | rfl | rfl
    · exact nba_stays hEa hEb (fun b hb => hb.elim)
    · exact flda_stays hEb
    · exact rown_stays hEa hEb (fun b hb => hb.elim)
  intro jnk vals lo hi w25 hE0 hsat hdj hbd
  obtain ⟨q7, qc7, hv7, hl7, hh7, hr7⟩ := hsat 7 (by decide) rfl
  rw [vset_eq hv7]
  have hS := hSb.add hE0 (x := row 42 4 (some ⟨q7, 0, none⟩) 6 qc7 ((ownHanks.flatMap Hank.enc) ++ (ownHanks.flatMap Hank.enc))) hr7 (fun k hk => by cases hk; have := hbd 7 (by decide); omega)
  have hcp2 := row_cap hr7
  refine r_index rfl rfl sl_76 (by omega) rfl rfl ?_
  refine r_field rfl fl_25_0 rfl rfl ?_
  refine r_store1 hS (i := 22) rfl (by conv => lhs; whnf) rfl rfl sz_22 rfl rfl rfl ?_
  intro w26 hS hE
  refine wpl_nil ?_
  refine thn ?_
  refine k_seq ?_
  (try simp only [List.nil_append, List.cons_append, List.set_cons_zero, List.set_cons_succ] at hS)
  have hSb := hS
  apply k_draw0 (m := 8) (ss := [.val _, .val _, .val _, .val _, .val _, .ex (NBA ownHanks 3), .ex (FldA 65 (ownHorses.flatMap Horse.enc) 2 2), .ex (RowN 65 3 4 ((ownHorses.flatMap Horse.enc) ++ (ownHorses.flatMap Horse.enc)))]) mixed rfl (by kernel_rfl) (by kernel_rfl) rfl rfl (conB_noSt rfl) rfl
  · refine ⟨?_, ?_, ?_, ?_, ?_, ?_, ?_, ?_, trivial⟩
    · -- op 0
      intro jnk vals lo hi w27 hE0 hd
      have hS := hS.step hE0
      refine r_move (by conv => lhs; whnf) rfl rfl ?_
      refine wpl_end ?_
      exact ⟨rfl, Ext.refl _ _, rfl⟩
    · -- op 1
      intro jnk vals lo hi w28 hE0 hd
      have hS := hS.step hE0
      refine r_move (by conv => lhs; whnf) rfl rfl ?_
      refine wpl_end ?_
      exact ⟨rfl, Ext.refl _ _, rfl⟩
    · -- op 2
      intro jnk vals lo hi w29 hE0 hd
      have hS := hS.step hE0
      refine r_index rfl rfl sl_76 (by omega) rfl rfl ?_
      refine wpl_end ?_
      exact ⟨rfl, Ext.refl _ _, rfl⟩
    · -- op 3
      intro jnk vals lo hi w30 hE0 hd
      have hS := hS.step hE0
      refine r_field rfl fl_25_1 rfl rfl ?_
      refine wpl_end ?_
      exact ⟨rfl, Ext.refl _ _, rfl⟩
    · -- op 4
      intro jnk vals lo hi w31 hE0 hd
      have hS := hS.step hE0
      refine r_load rfl (ld_bs hS (i := 22) rfl rfl sc_23) rfl rfl ?_
      refine wpl_end ?_
      exact ⟨rfl, Ext.refl _ _, rfl⟩
    · -- op 5
      intro jnk vals lo hi w33 hE0 hd
      have hS := hS.step hE0
      refine r_call rfl (c45 _) rfl rfl ?_
      rintro _ w34 ⟨q1, q2, rfl, hE, hb1, hb2, hr1, hr2, hne⟩
      refine wpl_end ?_
      exact ⟨rfl, hE.of_no, ⟨q1, q2, rfl, hb1, hb2, hr1, hr2, hne⟩⟩
    · -- op 6
      intro jnk vals lo hi w35 hE0 hd
      have hS := hS.step hE0
      obtain ⟨q1, q2, hv5, hb1, hb2, hr1, hr2, hne⟩ := hd 5 (by decide) rfl
      rw [vset_eq hv5]
      refine r_fieldv rfl fs_25_1 rfl rfl rfl ?_
      refine wpl_end ?_
      exact ⟨rfl, Ext.refl _ _, ⟨q2, rfl, hb2⟩⟩
    · -- op 7
      intro jnk vals lo hi w36 hE0 hd
      have hS := hS.step hE0
      obtain ⟨q6, hv6, hb6⟩ := hd 6 (by decide) rfl
      rw [vset_eq hv6]
      refine r_appendn (n := 2) (c := 2) (cs := (ownHorses.flatMap Horse.enc)) hS rfl rfl us_23 us_23 sz_65 by_65 z_65 rfl (show Src _ (some _) _ from box_cells (hS.get (i := 3) rfl) 0) rfl (show Src _ (some _) _ from box_cells hb6 0) rfl (by omega) (by omega) rfl rfl rfl ?_
      intro b7 c7 w38 hS hE hB7
      refine wpl_end ?_
      exact ⟨rfl, hE.of_no, rown_mk (hS.get (i := 24) rfl) rfl rfl hB7⟩
  · intro φ hφ v lo hi w1 w2 hEa hEb
    simp at hφ
    rcases hφ with rfl | rfl | rfl
    · exact nba_stays hEa hEb (fun b hb => hb.elim)
    · exact flda_stays hEb
    · exact rown_stays hEa hEb (fun b hb => hb.elim)
  intro jnk vals lo hi w39 hE0 hsat hdj hbd
  obtain ⟨q7, qc7, hv7, hl7, hh7, hr7⟩ := hsat 7 (by decide) rfl
  rw [vset_eq hv7]
  have hS := hSb.add hE0 (x := row 65 3 (some ⟨q7, 0, none⟩) 4 qc7 ((ownHorses.flatMap Horse.enc) ++ (ownHorses.flatMap Horse.enc))) hr7 (fun k hk => by cases hk; have := hbd 7 (by decide); omega)
  have hcp3 := row_cap hr7
  refine r_index rfl rfl sl_76 (by omega) rfl rfl ?_
  refine r_field rfl fl_25_1 rfl rfl ?_
  refine r_store1 hS (i := 22) rfl (by conv => lhs; whnf) rfl rfl sz_23 rfl rfl rfl ?_
  intro w40 hS hE
  refine wpl_nil ?_
  refine thn ?_
  refine k_seq ?_
  (try simp only [List.nil_append, List.cons_append, List.set_cons_zero, List.set_cons_succ] at hS)
  have hSb := hS
  apply k_draw (m := 5) (ss := [.val _, .val _, .val _, .val _, .val _]) mixed rfl (by kernel_rfl) (by kernel_rfl) rfl rfl (conB_noSt rfl)
  · refine ⟨?_, ?_, ?_, ?_, ?_, trivial⟩
    · -- op 0
      intro jnk vals lo hi w41 hE0 hd
      have hS := hS.step hE0
      refine r_move (by conv => lhs; whnf) rfl rfl ?_
      refine wpl_end ?_
      exact ⟨rfl, Ext.refl _ _, rfl⟩
    · -- op 1
      intro jnk vals lo hi w42 hE0 hd
      have hS := hS.step hE0
      refine r_index rfl rfl sl_76 (by omega) rfl rfl ?_
      refine wpl_end ?_
      exact ⟨rfl, Ext.refl _ _, rfl⟩
    · -- op 2
      intro jnk vals lo hi w43 hE0 hd
      have hS := hS.step hE0
      refine r_field rfl fl_25_0 rfl rfl ?_
      refine wpl_end ?_
      exact ⟨rfl, Ext.refl _ _, rfl⟩
    · -- op 3
      intro jnk vals lo hi w44 hE0 hd
      have hS := hS.step hE0
      refine r_load rfl (ld_bs hS (i := 22) rfl rfl sc_22) rfl rfl ?_
      refine wpl_end ?_
      exact ⟨rfl, Ext.refl _ _, rfl⟩
    · -- op 4
      intro jnk vals lo hi w46 hE0 hd
      have hS := hS.step hE0
      refine r_call rfl (c25 _ _ _) rfl rfl ?_
      rintro _ w47 ⟨rfl, hE⟩
      have hS := hS.step hE
      refine wpl_end ?_
      exact ⟨rfl, hE.of_no, rfl⟩
  · intro φ hφ v lo hi S w1 w2 hEa hEb hSb2
    simp at hφ
  intro jnk vals lo hi w48 hE0 hsat hdj hbd
  have hS := hS.step hE0
  refine r_index rfl rfl sl_22 (by omega) rfl rfl ?_
  refine r_field rfl fl_42_0 rfl rfl ?_
  refine r_storea hS (i := 4) rfl rfl rfl sz_35 rfl rfl rfl ?_
  intro w49 hS hE
  refine wpl_nil ?_
  refine thn ?_
  refine k_seq ?_
  (try simp only [List.nil_append, List.cons_append, List.set_cons_zero, List.set_cons_succ] at hS)
  have hSb := hS
  apply k_draw (m := 5) (ss := [.val _, .val _, .val _, .val _, .val _]) mixed rfl (by kernel_rfl) (by kernel_rfl) rfl rfl (conB_noSt rfl)
  · refine ⟨?_, ?_, ?_, ?_, ?_, trivial⟩
    · -- op 0
      intro jnk vals lo hi w50 hE0 hd
      have hS := hS.step hE0
      refine r_move (by conv => lhs; whnf) rfl rfl ?_
      refine wpl_end ?_
      exact ⟨rfl, Ext.refl _ _, rfl⟩
    · -- op 1
      intro jnk vals lo hi w51 hE0 hd
      have hS := hS.step hE0
      refine r_index rfl rfl sl_76 (by omega) rfl rfl ?_
      refine wpl_end ?_
      exact ⟨rfl, Ext.refl _ _, rfl⟩
    · -- op 2
      intro jnk vals lo hi w52 hE0 hd
      have hS := hS.step hE0
      refine r_field rfl fl_25_0 rfl rfl ?_
      refine wpl_end ?_
      exact ⟨rfl, Ext.refl _ _, rfl⟩
    · -- op 3
      intro jnk vals lo hi w53 hE0 hd
      have hS := hS.step hE0
      refine r_load rfl (ld_bs hS (i := 22) rfl rfl sc_22) rfl rfl ?_
      refine wpl_end ?_
      exact ⟨rfl, Ext.refl _ _, rfl⟩
    · -- op 4
      intro jnk vals lo hi w55 hE0 hd
      have hS := hS.step hE0
      refine r_call rfl (c21 _ _) rfl rfl ?_
      rintro _ w56 ⟨rfl, hE⟩
      have hS := hS.step hE
      refine wpl_end ?_
      exact ⟨rfl, hE.of_no, rfl⟩
  · intro φ hφ v lo hi S w1 w2 hEa hEb hSb2
    simp at hφ
  intro jnk vals lo hi w57 hE0 hsat hdj hbd
  have hS := hS.step hE0
  refine r_index rfl rfl sl_22 (by omega) rfl rfl ?_
  refine r_field rfl fl_42_0 rfl rfl ?_
  refine r_storea hS (i := 6) rfl rfl rfl sz_35 rfl rfl rfl ?_
  intro w58 hS hE
  refine wpl_nil ?_
  refine thn ?_
  refine k_seq ?_
  (try simp only [List.nil_append, List.cons_append, List.set_cons_zero, List.set_cons_succ] at hS)
  have hSb := hS
  apply k_draw (m := 5) (ss := [.val _, .val _, .val _, .val _, .val _]) mixed rfl (by kernel_rfl) (by kernel_rfl) rfl rfl (conB_noSt rfl)
  · refine ⟨?_, ?_, ?_, ?_, ?_, trivial⟩
    · -- op 0
      intro jnk vals lo hi w59 hE0 hd
      have hS := hS.step hE0
      refine r_move (by conv => lhs; whnf) rfl rfl ?_
      refine wpl_end ?_
      exact ⟨rfl, Ext.refl _ _, rfl⟩
    · -- op 1
      intro jnk vals lo hi w60 hE0 hd
      have hS := hS.step hE0
      refine r_index rfl rfl sl_76 (by omega) rfl rfl ?_
      refine wpl_end ?_
      exact ⟨rfl, Ext.refl _ _, rfl⟩
    · -- op 2
      intro jnk vals lo hi w61 hE0 hd
      have hS := hS.step hE0
      refine r_field rfl fl_25_0 rfl rfl ?_
      refine wpl_end ?_
      exact ⟨rfl, Ext.refl _ _, rfl⟩
    · -- op 3
      intro jnk vals lo hi w62 hE0 hd
      have hS := hS.step hE0
      refine r_load rfl (ld_bs hS (i := 22) rfl rfl sc_22) rfl rfl ?_
      refine wpl_end ?_
      exact ⟨rfl, Ext.refl _ _, rfl⟩
    · -- op 4
      intro jnk vals lo hi w64 hE0 hd
      have hS := hS.step hE0
      refine r_call rfl (c25 _ _ _) rfl rfl ?_
      rintro _ w65 ⟨rfl, hE⟩
      have hS := hS.step hE
      refine wpl_end ?_
      exact ⟨rfl, hE.of_no, rfl⟩
  · intro φ hφ v lo hi S w1 w2 hEa hEb hSb2
    simp at hφ
  intro jnk vals lo hi w66 hE0 hsat hdj hbd
  have hS := hS.step hE0
  refine r_index rfl rfl sl_22 (by omega) rfl rfl ?_
  refine r_field rfl fl_42_1 rfl rfl ?_
  refine r_storea hS (i := 8) rfl rfl rfl sz_35 rfl rfl rfl ?_
  intro w67 hS hE
  refine wpl_nil ?_
  refine thn ?_
  refine k_seq ?_
  (try simp only [List.nil_append, List.cons_append, List.set_cons_zero, List.set_cons_succ] at hS)
  have hSb := hS
  apply k_draw (m := 5) (ss := [.val _, .val _, .val _, .val _, .val _]) mixed rfl (by kernel_rfl) (by kernel_rfl) rfl rfl (conB_noSt rfl)
  · refine ⟨?_, ?_, ?_, ?_, ?_, trivial⟩
    · -- op 0
      intro jnk vals lo hi w68 hE0 hd
      have hS := hS.step hE0
      refine r_move (by conv => lhs; whnf) rfl rfl ?_
      refine wpl_end ?_
      exact ⟨rfl, Ext.refl _ _, rfl⟩
    · -- op 1
      intro jnk vals lo hi w69 hE0 hd
      have hS := hS.step hE0
      refine r_index rfl rfl sl_76 (by omega) rfl rfl ?_
      refine wpl_end ?_
      exact ⟨rfl, Ext.refl _ _, rfl⟩
    · -- op 2
      intro jnk vals lo hi w70 hE0 hd
      have hS := hS.step hE0
      refine r_field rfl fl_25_0 rfl rfl ?_
      refine wpl_end ?_
      exact ⟨rfl, Ext.refl _ _, rfl⟩
    · -- op 3
      intro jnk vals lo hi w71 hE0 hd
      have hS := hS.step hE0
      refine r_load rfl (ld_bs hS (i := 22) rfl rfl sc_22) rfl rfl ?_
      refine wpl_end ?_
      exact ⟨rfl, Ext.refl _ _, rfl⟩
    · -- op 4
      intro jnk vals lo hi w73 hE0 hd
      have hS := hS.step hE0
      refine r_call rfl (c21 _ _) rfl rfl ?_
      rintro _ w74 ⟨rfl, hE⟩
      have hS := hS.step hE
      refine wpl_end ?_
      exact ⟨rfl, hE.of_no, rfl⟩
  · intro φ hφ v lo hi S w1 w2 hEa hEb hSb2
    simp at hφ
  intro jnk vals lo hi w75 hE0 hsat hdj hbd
  have hS := hS.step hE0
  refine r_index rfl rfl sl_22 (by omega) rfl rfl ?_
  refine r_field rfl fl_42_1 rfl rfl ?_
  refine r_storea hS (i := 10) rfl rfl rfl sz_35 rfl rfl rfl ?_
  intro w76 hS hE
  refine wpl_nil ?_
  refine thn ?_
  refine k_seq ?_
  (try simp only [List.nil_append, List.cons_append, List.set_cons_zero, List.set_cons_succ] at hS)
  refine k_region ?_
  refine r_move (by conv => lhs; whnf) rfl rfl ?_
  refine r_index rfl rfl sl_76 (by omega) rfl rfl ?_
  refine r_field rfl fl_25_1 rfl rfl ?_
  refine r_load rfl (ld_bs hS (i := 22) rfl rfl sc_23) rfl rfl ?_
  refine r_index rfl rfl sl_23 (by omega) rfl rfl ?_
  refine r_field rfl fl_65_0 rfl rfl ?_
  refine r_store1 hS (i := 13) rfl (by conv => lhs; whnf) rfl rfl sz_3 rfl rfl rfl ?_
  intro w78 hS hE
  refine wpl_nil ?_
  refine thn ?_
  refine k_seq ?_
  (try simp only [List.nil_append, List.cons_append, List.set_cons_zero, List.set_cons_succ] at hS)
  refine k_region ?_
  refine r_move (by conv => lhs; whnf) rfl rfl ?_
  refine r_index rfl rfl sl_76 (by omega) rfl rfl ?_
  refine r_field rfl fl_25_1 rfl rfl ?_
  refine r_load rfl (ld_bs hS (i := 22) rfl rfl sc_23) rfl rfl ?_
  refine r_index rfl rfl sl_23 (by omega) rfl rfl ?_
  refine r_field rfl fl_65_1 rfl rfl ?_
  refine r_store1 hS (i := 15) rfl (by conv => lhs; whnf) rfl rfl sz_3 rfl rfl rfl ?_
  intro w80 hS hE
  refine wpl_nil ?_
  refine thn ?_
  refine k_seq ?_
  (try simp only [List.nil_append, List.cons_append, List.set_cons_zero, List.set_cons_succ] at hS)
  refine k_region ?_
  refine r_move (by conv => lhs; whnf) rfl rfl ?_
  refine r_index rfl rfl sl_76 (by omega) rfl rfl ?_
  refine r_field rfl fl_25_1 rfl rfl ?_
  refine r_load rfl (ld_bs hS (i := 22) rfl rfl sc_23) rfl rfl ?_
  refine r_index rfl rfl sl_23 (by omega) rfl rfl ?_
  refine r_field rfl fl_65_2 rfl rfl ?_
  refine r_store1 hS (i := 17) rfl (by conv => lhs; whnf) rfl rfl sz_3 rfl rfl rfl ?_
  intro w82 hS hE
  refine wpl_nil ?_
  refine thn ?_
  refine k_seq ?_
  (try simp only [List.nil_append, List.cons_append, List.set_cons_zero, List.set_cons_succ] at hS)
  refine k_region ?_
  refine r_move (by conv => lhs; whnf) rfl rfl ?_
  refine r_index rfl rfl sl_76 (by omega) rfl rfl ?_
  refine r_field rfl fl_25_2 rfl rfl ?_
  refine r_store1 hS (i := 22) rfl (by conv => lhs; whnf) rfl rfl sz_3 rfl rfl rfl ?_
  intro w83 hS hE
  refine wpl_nil ?_
  refine thn ?_
  refine k_seq ?_
  (try simp only [List.nil_append, List.cons_append, List.set_cons_zero, List.set_cons_succ] at hS)
  refine k_region ?_
  refine r_move (by conv => lhs; whnf) rfl rfl ?_
  refine r_index rfl rfl sl_76 (by omega) rfl rfl ?_
  refine r_field rfl fl_25_4 rfl rfl ?_
  refine r_store1 hS (i := 22) rfl (by conv => lhs; whnf) rfl rfl sz_3 rfl rfl rfl ?_
  intro wL hS hE
  have hbad : ∀ i, i < 11 → BadAt wL b71 i (badB i) := by
    intro i hi
    match i, hi with
    | 0, _ => exact badAt_mk (b := badB 0) (hS.get (i := 22) rfl) rfl (row_rdrow henc_len (xs := ownHanks ++ ownHanks) (hS.get (i := 23) rfl) rfl (by decide)) (nb_x (hs := badHorses 0) (hS.get (i := 1) rfl) (by decide)) (by omega)
    | 1, _ => exact badAt_mk (b := badB 1) (hS.get (i := 22) rfl) rfl (nb_h (hs := badHanks 1) (hS.get (i := 2) rfl) (by decide)) (row_rdrow senc_len (xs := ownHorses ++ ownHorses) (hS.get (i := 24) rfl) rfl (by decide)) (by decide)
    | 2, _ => exact badAt_mk (b := badB 2) (hS.get (i := 22) rfl) rfl (nb_h (hs := badHanks 2) (hS.get (i := 4) rfl) (by decide)) (nb_x (hs := badHorses 2) (hS.get (i := 5) rfl) (by decide)) (by decide)
    | 3, _ => exact badAt_mk (b := badB 3) (hS.get (i := 22) rfl) rfl (nb_h (hs := badHanks 3) (hS.get (i := 6) rfl) (by decide)) (nb_x (hs := badHorses 3) (hS.get (i := 7) rfl) (by decide)) (by decide)
    | 4, _ => exact badAt_mk (b := badB 4) (hS.get (i := 22) rfl) rfl (nb_h (hs := badHanks 4) (hS.get (i := 8) rfl) (by decide)) (nb_x (hs := badHorses 4) (hS.get (i := 9) rfl) (by decide)) (by decide)
    | 5, _ => exact badAt_mk (b := badB 5) (hS.get (i := 22) rfl) rfl (nb_h (hs := badHanks 5) (hS.get (i := 10) rfl) (by decide)) (nb_x (hs := badHorses 5) (hS.get (i := 11) rfl) (by decide)) (by decide)
    | 6, _ => exact badAt_mk (b := badB 6) (hS.get (i := 22) rfl) rfl (nb_h (hs := badHanks 6) (hS.get (i := 12) rfl) (by decide)) (nb_x (hs := badHorses 6) (hS.get (i := 13) rfl) (by decide)) (by decide)
    | 7, _ => exact badAt_mk (b := badB 7) (hS.get (i := 22) rfl) rfl (nb_h (hs := badHanks 7) (hS.get (i := 14) rfl) (by decide)) (nb_x (hs := badHorses 7) (hS.get (i := 15) rfl) (by decide)) (by decide)
    | 8, _ => exact badAt_mk (b := badB 8) (hS.get (i := 22) rfl) rfl (nb_h (hs := badHanks 8) (hS.get (i := 16) rfl) (by decide)) (nb_x (hs := badHorses 8) (hS.get (i := 17) rfl) (by decide)) (by decide)
    | 9, _ => exact badAt_mk (b := badB 9) (hS.get (i := 22) rfl) rfl (nb_h (hs := badHanks 9) (hS.get (i := 18) rfl) (by decide)) (nb_x (hs := badHorses 9) (hS.get (i := 19) rfl) (by decide)) (by decide)
    | 10, _ => exact badAt_mk (b := badB 10) (hS.get (i := 22) rfl) rfl (nb_h (hs := badHanks 10) (hS.get (i := 20) rfl) (by decide)) (nb_x (hs := badHorses 10) (hS.get (i := 21) rfl) (by decide)) (by decide)
    | n + 11, hi => omega
  have hB0 := hS.ext
  replace hP := hP.ext hB0
  have hS := hS.fresh
  refine wpl_nil ?_
  refine thn ?_
  refine k_seq ?_
  refine k_seq ?_
  refine k_region ?_
  refine r_assign (by conv => lhs; whnf) rfl rfl ?_
  refine wpl_nil ?_
  refine thn ?_
  refine k_block ?_
  refine k_loop (ι := Nat) [0, 2, 3, 4, 5, 6, 7, 8, 9, 10, 11, 12, 13, 14, 15, 16, 17, 18, 19, 144, 145, 146, 147, 148, 149, 150, 151, 152, 153, 154, 155, 156, 157, 158, 159, 160, 161, 162, 163, 164, 165, 166, 167, 168, 169, 170, 171, 172, 173, 174, 175, 176, 177, 178, 179, 180, 181, 182, 183, 184, 185, 186, 187, 188, 189, 190, 191, 192, 193, 194, 195, 196, 197, 198, 199, 200, 201, 202, 203, 204, 205, 206, 207, 208, 209, 210, 211, 212, 213, 214, 215, 216, 217, 218, 219, 220, 221, 222, 223, 224, 225, 226, 227, 228, 229, 230, 231, 232, 233, 234, 235, 236, 237, 238, 239, 240, 241, 242, 243, 244, 245, 246, 247, 248, 249, 250, 251, 252] (fun i => [(2, .int .i64 (i : Int))]) (fun i w' => i ≤ 11 ∧ St (bs wL) w' []) (fun i => 11 - i) 0 ⟨rfl, trivial⟩ ⟨Nat.zero_le _, hS⟩ ?_
  rintro i j w2 ⟨hi0, hS⟩
  refine k_seq ?_
  refine k_seq ?_
  refine k_region ?_
  refine r_move (by conv => lhs; whnf) rfl rfl ?_
  refine r_move (by conv => lhs; whnf) rfl rfl ?_
  refine r_len rfl sl_76 rfl rfl ?_
  refine r_lss rfl rfl rfl rfl ?_
  refine wpl_nil ?_
  refine thn ?_
  refine k_cond rfl (fun hc86 => ?_) (fun hc86 => ?_)
  · -- t
    have hc860 := hc86
    (try simp only [decide_eq_true_eq, decide_eq_false_iff_not, Bool.and_eq_true, Bool.and_eq_false_iff, Bool.not_eq_true', Bool.not_eq_false', Int.not_lt, Int.not_le] at hc86)
    have hk : i < 11 := by omega
    obtain ⟨A1, n1, c1, A2, n2, c2, hcb, h1, h2, hcap⟩ := hbad i hk
    have hbv := badB_no i hk
    refine k_skip ?_
    refine thn ?_
    refine k_seq ?_
    refine k_block ?_
    refine k_seq ?_
    refine k_region ?_
    refine r_move (by conv => lhs; whnf) rfl rfl ?_
    refine r_move (by conv => lhs; whnf) rfl rfl ?_
    refine r_index rfl rfl sl_76 (by omega) rfl rfl ?_
    refine r_load rfl (ld_ag (hcb.ext hS.ext) ag_25 rfl) rfl rfl ?_
    refine r_call rfl (c37 _ (badB i) A1 A2 n1 c1 n2 c2 (h1.ext hS.ext) (h2.ext hS.ext) (hP.ext hS.ext) (-1) 0 0) rfl rfl ?_
    rintro _ w88 ⟨hv88, hE⟩
    simp only [bad_dyes hbv] at hv88
    subst hv88
    have hS := hS.step hE
    refine r_move (by conv => lhs; whnf) rfl rfl ?_
    refine r_extract rfl rfl rfl rfl ?_
    refine r_extract rfl rfl rfl rfl ?_
    refine r_extract rfl rfl rfl rfl ?_
    refine r_assign (by conv => lhs; whnf) rfl rfl ?_
    refine r_assign (by conv => lhs; whnf) rfl rfl ?_
    refine r_assign (by conv => lhs; whnf) rfl rfl ?_
    refine wpl_nil ?_
    refine thn ?_
    refine k_seq ?_
    refine k_region ?_
    refine r_move (by conv => lhs; whnf) rfl rfl ?_
    refine r_move (by conv => lhs; whnf) rfl rfl ?_
    refine r_index rfl rfl sl_76 (by omega) rfl rfl ?_
    refine r_load rfl (ld_ag (hcb.ext hS.ext) ag_25 rfl) rfl rfl ?_
    refine r_call rfl (c18 _ (badB i) A1 A2 n1 c1 n2 c2 (h1.ext hS.ext) (h2.ext hS.ext) (hP.ext hS.ext) [] none 0 0 rd_nil) rfl rfl ?_
    rintro _ w90 ⟨hv90, hE⟩
    simp only [bad_works hbv] at hv90
    subst hv90
    have hS := hS.step hE
    refine r_move (by conv => lhs; whnf) rfl rfl ?_
    refine r_extract rfl rfl rfl rfl ?_
    refine r_extract rfl rfl rfl rfl ?_
    refine r_assign (by conv => lhs; whnf) rfl rfl ?_
    refine r_assign (by conv => lhs; whnf) rfl rfl ?_
    refine wpl_nil ?_
    refine thn ?_
    refine k_seq ?_
    refine k_region ?_
    refine r_move (by conv => lhs; whnf) rfl rfl ?_
    refine r_move (by conv => lhs; whnf) rfl rfl ?_
    refine r_index rfl rfl sl_76 (by omega) rfl rfl ?_
    refine r_load rfl (ld_ag (hcb.ext hS.ext) ag_25 rfl) rfl rfl ?_
    refine r_call rfl (c20 _ (badB i) A1 A2 n1 c1 n2 c2 (h1.ext hS.ext) (h2.ext hS.ext) (hP.ext hS.ext) [] none 0 0 rd_nil 0) rfl rfl ?_
    rintro _ w92 ⟨hv92, hE⟩
    simp only [bad_left hbv] at hv92
    subst hv92
    have hS := hS.step hE
    refine r_move (by conv => lhs; whnf) rfl rfl ?_
    refine r_extract rfl rfl rfl rfl ?_
    refine r_extract rfl rfl rfl rfl ?_
    refine r_alloc hS z_35 rfl rfl rfl ?_
    intro b8 w93 hS hE hB8
    refine r_storea hS (i := 0) rfl rfl rfl sz_35 rfl rfl rfl ?_
    intro w94 hS hE
    refine r_assign (by conv => lhs; whnf) rfl rfl ?_
    refine wpl_nil ?_
    refine thn ?_
    refine k_seq ?_
    refine k_region ?_
    refine r_move (by conv => lhs; whnf) rfl rfl ?_
    refine r_move (by conv => lhs; whnf) rfl rfl ?_
    refine r_index rfl rfl sl_76 (by omega) rfl rfl ?_
    refine r_load rfl (ld_ag (hcb.ext hS.ext) ag_25 rfl) rfl rfl ?_
    refine r_call rfl (c19 _ (badB i) A1 A2 n1 c1 n2 c2 (h1.ext hS.ext) (h2.ext hS.ext) (hP.ext hS.ext) [] none 0 0 rd_nil) rfl rfl ?_
    rintro _ w96 ⟨hv96, hE⟩
    simp only [bad_off hbv] at hv96
    subst hv96
    have hS := hS.step hE
    refine r_move (by conv => lhs; whnf) rfl rfl ?_
    refine r_extract rfl rfl rfl rfl ?_
    refine r_extract rfl rfl rfl rfl ?_
    refine r_alloc hS z_35 rfl rfl rfl ?_
    intro b10 w97 hS hE hB10
    refine r_storea hS (i := 1) rfl rfl rfl sz_35 rfl rfl rfl ?_
    intro w98 hS hE
    refine r_assign (by conv => lhs; whnf) rfl rfl ?_
    refine wpl_nil ?_
    refine thn ?_
    refine k_seq ?_
    refine k_region ?_
    refine r_move (by conv => lhs; whnf) rfl rfl ?_
    refine r_move (by conv => lhs; whnf) rfl rfl ?_
    refine r_index rfl rfl sl_76 (by omega) rfl rfl ?_
    refine r_load rfl (ld_ag (hcb.ext hS.ext) ag_25 rfl) rfl rfl ?_
    refine r_call rfl (c26 _ (badB i) A1 A2 n1 c1 n2 c2 (h1.ext hS.ext) (h2.ext hS.ext) (hP.ext hS.ext)) rfl rfl ?_
    rintro _ w100 ⟨aq100, cq100, hv100, hE, _, _⟩
    simp only [bad_best hbv] at hv100
    subst hv100
    have hS := hS.step hE
    refine r_move (by conv => lhs; whnf) rfl rfl ?_
    refine r_extract rfl rfl rfl rfl ?_
    refine r_extract rfl rfl rfl rfl ?_
    refine r_assign (by conv => lhs; whnf) rfl rfl ?_
    refine r_assign (by conv => lhs; whnf) rfl rfl ?_
    refine wpl_nil ?_
    refine thn ?_
    refine k_seq ?_
    refine k_region ?_
    refine r_move (by conv => lhs; whnf) rfl rfl ?_
    refine r_move (by conv => lhs; whnf) rfl rfl ?_
    refine r_index rfl rfl sl_76 (by omega) rfl rfl ?_
    refine r_load rfl (ld_ag (hcb.ext hS.ext) ag_25 rfl) rfl rfl ?_
    refine r_call rfl (c27 _ (badB i) A1 A2 n1 c1 n2 c2 (h1.ext hS.ext) (h2.ext hS.ext) (hP.ext hS.ext)) rfl rfl ?_
    rintro _ w102 ⟨aq102, cq102, hv102, hE, _, _⟩
    simp only [bad_chk hbv] at hv102
    subst hv102
    have hS := hS.step hE
    refine r_move (by conv => lhs; whnf) rfl rfl ?_
    refine r_extract rfl rfl rfl rfl ?_
    refine r_extract rfl rfl rfl rfl ?_
    refine r_assign (by conv => lhs; whnf) rfl rfl ?_
    refine r_assign (by conv => lhs; whnf) rfl rfl ?_
    refine wpl_nil ?_
    refine thn ?_
    refine k_seq ?_
    refine k_region ?_
    refine r_move (by conv => lhs; whnf) rfl rfl ?_
    refine r_move (by conv => lhs; whnf) rfl rfl ?_
    refine r_index rfl rfl sl_76 (by omega) rfl rfl ?_
    refine r_load rfl (ld_ag (hcb.ext hS.ext) ag_25 rfl) rfl rfl ?_
    refine r_call rfl (c33 _ (badB i) A1 A2 n1 c1 n2 c2 (h1.ext hS.ext) (h2.ext hS.ext) (hP.ext hS.ext) hcap (-1)) rfl rfl ?_
    rintro _ w104 ⟨hv104, hE⟩
    simp only [bad_buy hbv] at hv104
    subst hv104
    have hS := hS.step hE
    refine r_move (by conv => lhs; whnf) rfl rfl ?_
    refine r_extract rfl rfl rfl rfl ?_
    refine r_extract rfl rfl rfl rfl ?_
    refine r_assign (by conv => lhs; whnf) rfl rfl ?_
    refine r_assign (by conv => lhs; whnf) rfl rfl ?_
    refine wpl_nil ?_
    refine thn ?_
    refine k_seq ?_
    refine k_region ?_
    refine r_move (by conv => lhs; whnf) rfl rfl ?_
    refine r_move (by conv => lhs; whnf) rfl rfl ?_
    refine r_index rfl rfl sl_76 (by omega) rfl rfl ?_
    refine r_load rfl (ld_ag (hcb.ext hS.ext) ag_25 rfl) rfl rfl ?_
    refine r_call rfl (c36 _ (badB i) A1 A2 n1 c1 n2 c2 (h1.ext hS.ext) (h2.ext hS.ext) (hP.ext hS.ext)) rfl rfl ?_
    rintro _ w106 ⟨hv106, hE⟩
    simp only [bad_perhaps hbv] at hv106
    subst hv106
    have hS := hS.step hE
    refine r_move (by conv => lhs; whnf) rfl rfl ?_
    refine r_extract rfl rfl rfl rfl ?_
    refine r_extract rfl rfl rfl rfl ?_
    refine r_assign (by conv => lhs; whnf) rfl rfl ?_
    refine r_assign (by conv => lhs; whnf) rfl rfl ?_
    refine wpl_nil ?_
    refine thn ?_
    refine k_seq ?_
    refine k_region ?_
    refine r_move (by conv => lhs; whnf) rfl rfl ?_
    refine r_move (by conv => lhs; whnf) rfl rfl ?_
    refine r_index rfl rfl sl_76 (by omega) rfl rfl ?_
    refine r_load rfl (ld_ag (hcb.ext hS.ext) ag_25 rfl) rfl rfl ?_
    refine r_call rfl (c46 _ (badB i) A1 A2 n1 c1 n2 c2 (h1.ext hS.ext) (h2.ext hS.ext)) rfl rfl ?_
    rintro _ w108 ⟨hv108, hE⟩
    simp only [bad_chk hbv] at hv108
    subst hv108
    have hS := hS.step hE
    refine r_neq rfl rfl rfl rfl ?_
    refine r_move (by conv => lhs; whnf) rfl rfl ?_
    refine r_move (by conv => lhs; whnf) rfl rfl ?_
    refine r_neq rfl rfl rfl rfl ?_
    refine r_pick_f rfl (by conv => lhs; whnf) rfl rfl ?_
    refine r_move (by conv => lhs; whnf) rfl rfl ?_
    refine r_move (by conv => lhs; whnf) rfl rfl ?_
    refine r_neq rfl rfl rfl rfl ?_
    refine r_pick_f rfl (by conv => lhs; whnf) rfl rfl ?_
    refine r_move (by conv => lhs; whnf) rfl rfl ?_
    refine r_move (by conv => lhs; whnf) rfl rfl ?_
    refine r_neq rfl rfl rfl rfl ?_
    refine r_pick_f rfl (by conv => lhs; whnf) rfl rfl ?_
    refine r_move (by conv => lhs; whnf) rfl rfl ?_
    refine r_move (by conv => lhs; whnf) rfl rfl ?_
    refine r_neq rfl rfl rfl rfl ?_
    refine r_pick_f rfl (by conv => lhs; whnf) rfl rfl ?_
    refine r_move (by conv => lhs; whnf) rfl rfl ?_
    refine r_move (by conv => lhs; whnf) rfl rfl ?_
    refine r_neq rfl rfl rfl rfl ?_
    refine r_pick_f rfl (by conv => lhs; whnf) rfl rfl ?_
    refine r_move (by conv => lhs; whnf) rfl rfl ?_
    refine r_move (by conv => lhs; whnf) rfl rfl ?_
    refine r_neq rfl rfl rfl rfl ?_
    refine r_pick_f rfl (by conv => lhs; whnf) rfl rfl ?_
    refine r_move (by conv => lhs; whnf) rfl rfl ?_
    refine r_move (by conv => lhs; whnf) rfl rfl ?_
    refine r_neq rfl rfl rfl rfl ?_
    refine r_pick_f rfl (by conv => lhs; whnf) rfl rfl ?_
    refine r_move (by conv => lhs; whnf) rfl rfl ?_
    refine r_move (by conv => lhs; whnf) rfl rfl ?_
    refine r_neq rfl rfl rfl rfl ?_
    refine r_pick_f rfl (by conv => lhs; whnf) rfl rfl ?_
    refine wpl_nil ?_
    refine thn ?_
    refine k_cond_f rfl ?_
    refine k_skip ?_
    refine blk_n ?_
    refine thn ?_
    refine k_region ?_
    refine r_move (by conv => lhs; whnf) rfl rfl ?_
    refine r_add rfl rfl rfl rfl (by omega) ?_
    refine r_assign (by conv => lhs; whnf) rfl rfl ?_
    refine wpl_nil ?_
    refine thn ?_
    refine ⟨i + 1, ⟨rfl, trivial⟩, ?_, ?_, ?_, rfl⟩
    · exact ⟨by omega, hS.take 0⟩
    · omega
    · (repeat (first | exact Agree.refl _ _ | exact agree_hv rfl (Agree.refl _ _) | refine agree_upd rfl ?_ | refine agree_mkF rfl ?_ | refine agree_hv rfl ?_))
  · -- f
    have hc860 := hc86
    (try simp only [decide_eq_true_eq, decide_eq_false_iff_not, Bool.and_eq_true, Bool.and_eq_false_iff, Bool.not_eq_true', Bool.not_eq_false', Int.not_lt, Int.not_le] at hc86)
    refine k_exit ?_
    refine thn_e ?_
    refine thn_e ?_
    refine blk_e ?_
    refine thn ?_
    refine k_seq ?_
    refine k_region ?_
    refine r_call rfl (c45 _) rfl rfl ?_
    rintro _ w109 ⟨pa109, pb109, rfl, hE, hb1, hb2, hr1, hr2, hne⟩
    have hS := NewBook.add hS hE hb1 hb2 hr1 hr2 hne
    refine r_call rfl (c37 _ ownB (some ⟨pa109, 0, none⟩) (some ⟨pb109, 0, none⟩) 3 3 2 2 (nb_h (hs := ownHanks) (hS.get (i := 0) rfl) (by decide)) (nb_x (hs := ownHorses) (hS.get (i := 1) rfl) (by decide)) (hP.ext hS.ext) 2 0 0) rfl rfl ?_
    rintro _ w110 ⟨hv110, hE⟩
    simp only [k26.1, k26.2] at hv110
    subst hv110
    have hS := hS.step hE
    refine r_move (by conv => lhs; whnf) rfl rfl ?_
    refine r_extract rfl rfl rfl rfl ?_
    refine r_extract rfl rfl rfl rfl ?_
    refine r_extract rfl rfl rfl rfl ?_
    refine r_assign (by conv => lhs; whnf) rfl rfl ?_
    refine r_assign (by conv => lhs; whnf) rfl rfl ?_
    refine r_assign (by conv => lhs; whnf) rfl rfl ?_
    refine wpl_nil ?_
    refine thn ?_
    refine k_seq ?_
    refine k_region ?_
    refine r_call rfl (c45 _) rfl rfl ?_
    rintro _ w111 ⟨pa111, pb111, rfl, hE, hb1, hb2, hr1, hr2, hne⟩
    have hS := NewBook.add hS hE hb1 hb2 hr1 hr2 hne
    refine r_call rfl (c37 _ ownB (some ⟨pa111, 0, none⟩) (some ⟨pb111, 0, none⟩) 3 3 2 2 (nb_h (hs := ownHanks) (hS.get (i := 2) rfl) (by decide)) (nb_x (hs := ownHorses) (hS.get (i := 3) rfl) (by decide)) (hP.ext hS.ext) 0 3 0) rfl rfl ?_
    rintro _ w112 ⟨hv112, hE⟩
    simp only [k27.1, k27.2] at hv112
    subst hv112
    have hS := hS.step hE
    refine r_move (by conv => lhs; whnf) rfl rfl ?_
    refine r_extract rfl rfl rfl rfl ?_
    refine r_extract rfl rfl rfl rfl ?_
    refine r_extract rfl rfl rfl rfl ?_
    refine r_assign (by conv => lhs; whnf) rfl rfl ?_
    refine r_assign (by conv => lhs; whnf) rfl rfl ?_
    refine r_assign (by conv => lhs; whnf) rfl rfl ?_
    refine wpl_nil ?_
    refine thn ?_
    refine k_seq ?_
    (try simp only [List.nil_append, List.cons_append, List.set_cons_zero, List.set_cons_succ] at hS)
    refine k_region ?_
    refine r_call rfl (c45 _) rfl rfl ?_
    rintro _ w113 ⟨pa113, pb113, rfl, hE, hb1, hb2, hr1, hr2, hne⟩
    have hS := NewBook.add hS hE hb1 hb2 hr1 hr2 hne
    refine r_buildSlice hS us_26 sz_3 z_3 rfl rfl rfl rfl rfl ?_
    intro b267 w114 hS hE hB267
    refine r_call rfl (c18 _ ownB (some ⟨pa113, 0, none⟩) (some ⟨pb113, 0, none⟩) 3 3 2 2 (nb_h (hs := ownHanks) (hS.get (i := 4) rfl) (by decide)) (nb_x (hs := ownHorses) (hS.get (i := 5) rfl) (by decide)) (hP.ext hS.ext) [0, 0, 1] _ 3 3 (cells_row (vs := [0, 0, 1]) (show Cells _ _ [iv 0, iv 0, iv 1] from box_cells (hS.get (i := 6) rfl) 0) (by decide))) rfl rfl ?_
    rintro _ w115 ⟨hv115, hE⟩
    simp only [k28.1, k28.2] at hv115
    subst hv115
    have hS := hS.step hE
    refine r_move (by conv => lhs; whnf) rfl rfl ?_
    refine r_extract rfl rfl rfl rfl ?_
    refine r_extract rfl rfl rfl rfl ?_
    refine r_assign (by conv => lhs; whnf) rfl rfl ?_
    refine r_assign (by conv => lhs; whnf) rfl rfl ?_
    refine wpl_nil ?_
    refine thn ?_
    refine k_seq ?_
    (try simp only [List.nil_append, List.cons_append, List.set_cons_zero, List.set_cons_succ] at hS)
    refine k_region ?_
    refine r_call rfl (c45 _) rfl rfl ?_
    rintro _ w116 ⟨pa116, pb116, rfl, hE, hb1, hb2, hr1, hr2, hne⟩
    have hS := NewBook.add hS hE hb1 hb2 hr1 hr2 hne
    refine r_buildSlice hS us_26 sz_3 z_3 rfl rfl rfl rfl rfl ?_
    intro b273 w117 hS hE hB273
    refine r_call rfl (c18 _ ownB (some ⟨pa116, 0, none⟩) (some ⟨pb116, 0, none⟩) 3 3 2 2 (nb_h (hs := ownHanks) (hS.get (i := 7) rfl) (by decide)) (nb_x (hs := ownHorses) (hS.get (i := 8) rfl) (by decide)) (hP.ext hS.ext) [0, 0, 1, 3] _ 4 4 (cells_row (vs := [0, 0, 1, 3]) (show Cells _ _ [iv 0, iv 0, iv 1, iv 3] from box_cells (hS.get (i := 9) rfl) 0) (by decide))) rfl rfl ?_
    rintro _ w118 ⟨hv118, hE⟩
    simp only [k29.1, k29.2] at hv118
    subst hv118
    have hS := hS.step hE
    refine r_move (by conv => lhs; whnf) rfl rfl ?_
    refine r_extract rfl rfl rfl rfl ?_
    refine r_extract rfl rfl rfl rfl ?_
    refine r_assign (by conv => lhs; whnf) rfl rfl ?_
    refine r_assign (by conv => lhs; whnf) rfl rfl ?_
    refine wpl_nil ?_
    refine thn ?_
    refine k_seq ?_
    (try simp only [List.nil_append, List.cons_append, List.set_cons_zero, List.set_cons_succ] at hS)
    refine k_region ?_
    refine r_call rfl (c45 _) rfl rfl ?_
    rintro _ w119 ⟨pa119, pb119, rfl, hE, hb1, hb2, hr1, hr2, hne⟩
    have hS := NewBook.add hS hE hb1 hb2 hr1 hr2 hne
    refine r_buildSlice hS us_26 sz_3 z_3 rfl rfl rfl rfl rfl ?_
    intro b279 w120 hS hE hB279
    refine r_call rfl (c20 _ ownB (some ⟨pa119, 0, none⟩) (some ⟨pb119, 0, none⟩) 3 3 2 2 (nb_h (hs := ownHanks) (hS.get (i := 10) rfl) (by decide)) (nb_x (hs := ownHorses) (hS.get (i := 11) rfl) (by decide)) (hP.ext hS.ext) [0, 1, 1, 1] _ 4 4 (cells_row (vs := [0, 1, 1, 1]) (show Cells _ _ [iv 0, iv 1, iv 1, iv 1] from box_cells (hS.get (i := 12) rfl) 0) (by decide)) 0) rfl rfl ?_
    rintro _ w121 ⟨hv121, hE⟩
    simp only [k30.1, k30.2] at hv121
    subst hv121
    have hS := hS.step hE
    refine r_move (by conv => lhs; whnf) rfl rfl ?_
    refine r_extract rfl rfl rfl rfl ?_
    refine r_extract rfl rfl rfl rfl ?_
    refine r_alloc hS z_35 rfl rfl rfl ?_
    intro b30 w122 hS hE hB30
    refine r_storea hS (i := 13) rfl rfl rfl sz_35 rfl rfl rfl ?_
    intro w123 hS hE
    refine r_assign (by conv => lhs; whnf) rfl rfl ?_
    refine wpl_nil ?_
    refine thn ?_
    refine k_seq ?_
    (try simp only [List.nil_append, List.cons_append, List.set_cons_zero, List.set_cons_succ] at hS)
    refine k_region ?_
    refine r_call rfl (c45 _) rfl rfl ?_
    rintro _ w124 ⟨pa124, pb124, rfl, hE, hb1, hb2, hr1, hr2, hne⟩
    have hS := NewBook.add hS hE hb1 hb2 hr1 hr2 hne
    refine r_buildSlice hS us_26 sz_3 z_3 rfl rfl rfl rfl rfl ?_
    intro b285 w125 hS hE hB285
    refine r_call rfl (c20 _ ownB (some ⟨pa124, 0, none⟩) (some ⟨pb124, 0, none⟩) 3 3 2 2 (nb_h (hs := ownHanks) (hS.get (i := 14) rfl) (by decide)) (nb_x (hs := ownHorses) (hS.get (i := 15) rfl) (by decide)) (hP.ext hS.ext) [0, 0, 1, 1] _ 4 4 (cells_row (vs := [0, 0, 1, 1]) (show Cells _ _ [iv 0, iv 0, iv 1, iv 1] from box_cells (hS.get (i := 16) rfl) 0) (by decide)) 3) rfl rfl ?_
    rintro _ w126 ⟨hv126, hE⟩
    simp only [k31.1, k31.2] at hv126
    subst hv126
    have hS := hS.step hE
    refine r_move (by conv => lhs; whnf) rfl rfl ?_
    refine r_extract rfl rfl rfl rfl ?_
    refine r_extract rfl rfl rfl rfl ?_
    refine r_alloc hS z_35 rfl rfl rfl ?_
    intro b32 w127 hS hE hB32
    refine r_storea hS (i := 17) rfl rfl rfl sz_35 rfl rfl rfl ?_
    intro w128 hS hE
    refine r_assign (by conv => lhs; whnf) rfl rfl ?_
    refine wpl_nil ?_
    refine thn ?_
    refine k_seq ?_
    (try simp only [List.nil_append, List.cons_append, List.set_cons_zero, List.set_cons_succ] at hS)
    refine k_region ?_
    refine r_call rfl (c45 _) rfl rfl ?_
    rintro _ w129 ⟨pa129, pb129, rfl, hE, hb1, hb2, hr1, hr2, hne⟩
    have hS := NewBook.add hS hE hb1 hb2 hr1 hr2 hne
    refine r_buildSlice hS us_26 sz_3 z_3 rfl rfl rfl rfl rfl ?_
    intro b291 w130 hS hE hB291
    refine r_call rfl (c19 _ ownB (some ⟨pa129, 0, none⟩) (some ⟨pb129, 0, none⟩) 3 3 2 2 (nb_h (hs := ownHanks) (hS.get (i := 18) rfl) (by decide)) (nb_x (hs := ownHorses) (hS.get (i := 19) rfl) (by decide)) (hP.ext hS.ext) [2, 2, 2, 2] _ 4 4 (cells_row (vs := [2, 2, 2, 2]) (show Cells _ _ [iv 2, iv 2, iv 2, iv 2] from box_cells (hS.get (i := 20) rfl) 0) (by decide))) rfl rfl ?_
    rintro _ w131 ⟨hv131, hE⟩
    simp only [k32.1, k32.2] at hv131
    subst hv131
    have hS := hS.step hE
    refine r_move (by conv => lhs; whnf) rfl rfl ?_
    refine r_extract rfl rfl rfl rfl ?_
    refine r_extract rfl rfl rfl rfl ?_
    refine r_alloc hS z_35 rfl rfl rfl ?_
    intro b34 w132 hS hE hB34
    refine r_storea hS (i := 21) rfl rfl rfl sz_35 rfl rfl rfl ?_
    intro w133 hS hE
    refine r_assign (by conv => lhs; whnf) rfl rfl ?_
    refine wpl_nil ?_
    refine thn ?_
    refine k_seq ?_
    (try simp only [List.nil_append, List.cons_append, List.set_cons_zero, List.set_cons_succ] at hS)
    refine k_region ?_
    refine r_call rfl (c45 _) rfl rfl ?_
    rintro _ w134 ⟨pa134, pb134, rfl, hE, hb1, hb2, hr1, hr2, hne⟩
    have hS := NewBook.add hS hE hb1 hb2 hr1 hr2 hne
    refine r_call rfl (c33 _ ownB (some ⟨pa134, 0, none⟩) (some ⟨pb134, 0, none⟩) 3 3 2 2 (nb_h (hs := ownHanks) (hS.get (i := 22) rfl) (by decide)) (nb_x (hs := ownHorses) (hS.get (i := 23) rfl) (by decide)) (hP.ext hS.ext) (by decide) 21) rfl rfl ?_
    rintro _ w135 ⟨hv135, hE⟩
    simp only [k33.1, k33.2] at hv135
    subst hv135
    have hS := hS.step hE
    refine r_move (by conv => lhs; whnf) rfl rfl ?_
    refine r_extract rfl rfl rfl rfl ?_
    refine r_extract rfl rfl rfl rfl ?_
    refine r_assign (by conv => lhs; whnf) rfl rfl ?_
    refine r_assign (by conv => lhs; whnf) rfl rfl ?_
    refine wpl_nil ?_
    refine thn ?_
    refine k_seq ?_
    (try simp only [List.nil_append, List.cons_append, List.set_cons_zero, List.set_cons_succ] at hS)
    refine k_region ?_
    refine r_call rfl (c45 _) rfl rfl ?_
    rintro _ w136 ⟨pa136, pb136, rfl, hE, hb1, hb2, hr1, hr2, hne⟩
    have hS := NewBook.add hS hE hb1 hb2 hr1 hr2 hne
    refine r_call rfl (c37 _ ownB (some ⟨pa136, 0, none⟩) (some ⟨pb136, 0, none⟩) 3 3 2 2 (nb_h (hs := ownHanks) (hS.get (i := 24) rfl) (by decide)) (nb_x (hs := ownHorses) (hS.get (i := 25) rfl) (by decide)) (hP.ext hS.ext) 1 2 2) rfl rfl ?_
    rintro _ w137 ⟨hv137, hE⟩
    simp only [k34.1, k34.2] at hv137
    subst hv137
    have hS := hS.step hE
    refine r_move (by conv => lhs; whnf) rfl rfl ?_
    refine r_extract rfl rfl rfl rfl ?_
    refine r_extract rfl rfl rfl rfl ?_
    refine r_extract rfl rfl rfl rfl ?_
    refine r_assign (by conv => lhs; whnf) rfl rfl ?_
    refine r_assign (by conv => lhs; whnf) rfl rfl ?_
    refine r_assign (by conv => lhs; whnf) rfl rfl ?_
    refine wpl_nil ?_
    refine thn ?_
    refine k_seq ?_
    (try simp only [List.nil_append, List.cons_append, List.set_cons_zero, List.set_cons_succ] at hS)
    refine k_region ?_
    refine r_call rfl (c47 _) rfl rfl ?_
    rintro _ w138 ⟨pa138, pb138, rfl, hE, hb1, hb2, hr1, hr2, hne⟩
    have hS := NewBook.add hS hE hb1 hb2 hr1 hr2 hne
    refine r_call rfl (c26 _ poorB (some ⟨pa138, 0, none⟩) (some ⟨pb138, 0, none⟩) 2 3 2 2 ((nb_h (hs := shortHanks) (hS.get (i := 26) rfl) (by decide)).take (m := 2) (by decide)) (nb_x (hs := ownHorses) (hS.get (i := 27) rfl) (by decide)) (hP.ext hS.ext)) rfl rfl ?_
    rintro _ w139 ⟨aq139, cq139, hv139, hE, hrd, hnw⟩
    simp only [k35.1, k35.2, List.length_cons, List.length_nil] at hv139 hrd hnw
    subst hv139
    have hS := hS.step hE
    refine r_move (by conv => lhs; whnf) rfl rfl ?_
    refine r_extract rfl rfl rfl rfl ?_
    refine r_extract rfl rfl rfl rfl ?_
    refine r_assign (by conv => lhs; whnf) rfl rfl ?_
    refine r_assign (by conv => lhs; whnf) rfl rfl ?_
    refine wpl_nil ?_
    refine thn ?_
    refine k_seq ?_
    (try simp only [List.nil_append, List.cons_append, List.set_cons_zero, List.set_cons_succ] at hS)
    refine k_region ?_
    refine r_call rfl (c47 _) rfl rfl ?_
    rintro _ w140 ⟨pa140, pb140, rfl, hE, hb1, hb2, hr1, hr2, hne⟩
    have hS := NewBook.add hS hE hb1 hb2 hr1 hr2 hne
    refine r_call rfl (c33 _ poorB (some ⟨pa140, 0, none⟩) (some ⟨pb140, 0, none⟩) 2 3 2 2 ((nb_h (hs := shortHanks) (hS.get (i := 28) rfl) (by decide)).take (m := 2) (by decide)) (nb_x (hs := ownHorses) (hS.get (i := 29) rfl) (by decide)) (hP.ext hS.ext) (by decide) 0) rfl rfl ?_
    rintro _ w141 ⟨hv141, hE⟩
    simp only [k36.1, k36.2] at hv141
    subst hv141
    have hS := hS.step hE
    refine r_move (by conv => lhs; whnf) rfl rfl ?_
    refine r_extract rfl rfl rfl rfl ?_
    refine r_extract rfl rfl rfl rfl ?_
    refine r_assign (by conv => lhs; whnf) rfl rfl ?_
    refine r_assign (by conv => lhs; whnf) rfl rfl ?_
    refine wpl_nil ?_
    refine thn ?_
    refine k_seq ?_
    refine k_seq ?_
    (try simp only [List.nil_append, List.cons_append, List.set_cons_zero, List.set_cons_succ] at hS)
    refine k_region ?_
    refine r_move (by conv => lhs; whnf) rfl rfl ?_
    refine r_neq rfl rfl rfl rfl ?_
    refine r_move (by conv => lhs; whnf) rfl rfl ?_
    refine r_move (by conv => lhs; whnf) rfl rfl ?_
    refine r_neq rfl rfl rfl rfl ?_
    refine r_pick_f rfl (by conv => lhs; whnf) rfl rfl ?_
    refine r_move (by conv => lhs; whnf) rfl rfl ?_
    refine r_move (by conv => lhs; whnf) rfl rfl ?_
    refine r_neq rfl rfl rfl rfl ?_
    refine r_pick_f rfl (by conv => lhs; whnf) rfl rfl ?_
    refine r_move (by conv => lhs; whnf) rfl rfl ?_
    refine r_move (by conv => lhs; whnf) rfl rfl ?_
    refine r_neq rfl rfl rfl rfl ?_
    refine r_pick_f rfl (by conv => lhs; whnf) rfl rfl ?_
    refine r_move (by conv => lhs; whnf) rfl rfl ?_
    refine r_move (by conv => lhs; whnf) rfl rfl ?_
    refine r_neq rfl rfl rfl rfl ?_
    refine r_pick_f rfl (by conv => lhs; whnf) rfl rfl ?_
    refine r_move (by conv => lhs; whnf) rfl rfl ?_
    refine r_move (by conv => lhs; whnf) rfl rfl ?_
    refine r_neq rfl rfl rfl rfl ?_
    refine r_pick_f rfl (by conv => lhs; whnf) rfl rfl ?_
    refine r_move (by conv => lhs; whnf) rfl rfl ?_
    refine r_move (by conv => lhs; whnf) rfl rfl ?_
    refine r_neq rfl rfl rfl rfl ?_
    refine r_pick_f rfl (by conv => lhs; whnf) rfl rfl ?_
    refine r_move (by conv => lhs; whnf) rfl rfl ?_
    refine r_move (by conv => lhs; whnf) rfl rfl ?_
    refine r_neq rfl rfl rfl rfl ?_
    refine r_pick_f rfl (by conv => lhs; whnf) rfl rfl ?_
    refine r_move (by conv => lhs; whnf) rfl rfl ?_
    refine r_move (by conv => lhs; whnf) rfl rfl ?_
    refine r_neq rfl rfl rfl rfl ?_
    refine r_pick_f rfl (by conv => lhs; whnf) rfl rfl ?_
    refine r_move (by conv => lhs; whnf) rfl rfl ?_
    refine r_move (by conv => lhs; whnf) rfl rfl ?_
    refine r_neq rfl rfl rfl rfl ?_
    refine r_pick_f rfl (by conv => lhs; whnf) rfl rfl ?_
    refine r_move (by conv => lhs; whnf) rfl rfl ?_
    refine r_move (by conv => lhs; whnf) rfl rfl ?_
    refine r_neq rfl rfl rfl rfl ?_
    refine r_pick_f rfl (by conv => lhs; whnf) rfl rfl ?_
    refine wpl_nil ?_
    refine thn ?_
    refine k_cond_f rfl ?_
    refine k_skip ?_
    refine thn ?_
    refine k_seq ?_
    (try simp only [List.nil_append, List.cons_append, List.set_cons_zero, List.set_cons_succ] at hS)
    refine k_region ?_
    refine r_builda (n := 5) (sz := 1) z_78 ar_78 rfl rfl rfl ?_
    refine r_builda (n := 5) (sz := 1) z_78 ar_78 rfl rfl rfl ?_
    refine r_builda (n := 5) (sz := 1) z_78 ar_78 rfl rfl rfl ?_
    refine r_buildSlice hS us_79 sz_78 z_78 rfl rfl rfl rfl rfl ?_
    intro b361 w145 hS hE hB361
    refine r_assign (by conv => lhs; whnf) rfl rfl ?_
    refine wpl_nil ?_
    refine thn ?_
    refine k_seq ?_
    refine k_seq ?_
    (try simp only [List.nil_append, List.cons_append, List.set_cons_zero, List.set_cons_succ] at hS)
    refine k_region ?_
    have hS := hS.pick1 (i := 30) rfl
    refine r_assign (by conv => lhs; whnf) rfl rfl ?_
    refine wpl_nil ?_
    refine thn ?_
    refine k_block ?_
    refine k_loop (ι := Nat) [0, 46, 47, 48, 49, 362, 363, 364, 365, 366, 367, 368, 369, 370, 371, 372, 373, 374, 375, 376, 377, 378, 379, 380, 381, 382, 383, 384, 385, 386, 387, 388, 389, 390, 391, 392, 393, 394, 395, 396, 397, 398, 399, 400, 401, 402, 403, 404, 405, 406, 407, 408] (fun i => [(46, .int .i64 (i : Int))]) (fun i w' => i ≤ 3 ∧ St (bs wL) w' [box b361 78 (dyesTab.map iv)]) (fun i => 3 - i) 0 ⟨rfl, trivial⟩ ⟨Nat.zero_le _, hS⟩ ?_
    rintro i j w2 ⟨hi0, hS⟩
    refine k_seq ?_
    refine k_seq ?_
    refine k_region ?_
    refine r_move (by conv => lhs; whnf) rfl rfl ?_
    refine r_move (by conv => lhs; whnf) rfl rfl ?_
    refine r_len rfl sl_79 rfl rfl ?_
    refine r_lss rfl rfl rfl rfl ?_
    refine wpl_nil ?_
    refine thn ?_
    refine k_cond rfl (fun hc147 => ?_) (fun hc147 => ?_)
    · -- t
      have hc1470 := hc147
      (try simp only [decide_eq_true_eq, decide_eq_false_iff_not, Bool.and_eq_true, Bool.and_eq_false_iff, Bool.not_eq_true', Bool.not_eq_false', Int.not_lt, Int.not_le] at hc147)
      have hk3 : i < 3 := by omega
      obtain ⟨hdV, hdE⟩ := dyes_tab i hk3
      refine k_skip ?_
      refine thn ?_
      refine k_seq ?_
      refine k_block ?_
      refine k_seq ?_
      have hSb := hS
      apply k_draw0 (m := 23) (ss := [.ex (NBA ownHanks 3), .val _, .val _, .val _, .val _, .val _, .val _, .val _, .val _, .val _, .val _, .val _, .val _, .val _, .val _, .val _, .val _, .val _, .val _, .val _, .val _, .val _, .val _]) mixed rfl (by kernel_rfl) (by kernel_rfl) rfl rfl (conB_noSt rfl) rfl
      · refine ⟨?_, ?_, ?_, ?_, ?_, ?_, ?_, ?_, ?_, ?_, ?_, ?_, ?_, ?_, ?_, ?_, ?_, ?_, ?_, ?_, ?_, ?_, ?_, trivial⟩
        · -- op 0
          intro jnk vals lo hi w148 hE0 hd
          have hS := hS.step hE0
          refine r_call rfl (c45 _) rfl rfl ?_
          rintro _ w149 ⟨q1, q2, rfl, hE, hb1, hb2, hr1, hr2, hne⟩
          refine wpl_end ?_
          exact ⟨rfl, hE.of_no, ⟨q1, q2, rfl, hb1, hb2, hr1, hr2, hne⟩⟩
        · -- op 1
          intro jnk vals lo hi w150 hE0 hd
          have hS := hS.step hE0
          refine r_move (by conv => lhs; whnf) rfl rfl ?_
          refine wpl_end ?_
          exact ⟨rfl, Ext.refl _ _, rfl⟩
        · -- op 2
          intro jnk vals lo hi w151 hE0 hd
          have hS := hS.step hE0
          refine r_move (by conv => lhs; whnf) rfl rfl ?_
          refine wpl_end ?_
          exact ⟨rfl, Ext.refl _ _, rfl⟩
        · -- op 3
          intro jnk vals lo hi w152 hE0 hd
          have hS := hS.step hE0
          refine r_index rfl rfl sl_79 (by omega) rfl rfl ?_
          refine wpl_end ?_
          exact ⟨rfl, Ext.refl _ _, rfl⟩
        · -- op 4
          intro jnk vals lo hi w153 hE0 hd
          have hS := hS.step hE0
          refine r_indexa rfl rfl ar_78 (by omega) rfl rfl ?_
          refine wpl_end ?_
          exact ⟨rfl, Ext.refl _ _, rfl⟩
        · -- op 5
          intro jnk vals lo hi w154 hE0 hd
          have hS := hS.step hE0
          refine r_load rfl (ld_tab (u := dyesTab) (c := (i : Int)) (j := 0) (hS.get (i := 0) rfl) sc_3 (by simp only [List.length_cons, List.length_nil]; omega)) rfl rfl ?_
          refine wpl_end ?_
          exact ⟨rfl, Ext.refl _ _, rfl⟩
        · -- op 6
          intro jnk vals lo hi w156 hE0 hd
          have hS := hS.step hE0
          refine r_move (by conv => lhs; whnf) rfl rfl ?_
          refine wpl_end ?_
          exact ⟨rfl, Ext.refl _ _, rfl⟩
        · -- op 7
          intro jnk vals lo hi w157 hE0 hd
          have hS := hS.step hE0
          refine r_move (by conv => lhs; whnf) rfl rfl ?_
          refine wpl_end ?_
          exact ⟨rfl, Ext.refl _ _, rfl⟩
        · -- op 8
          intro jnk vals lo hi w158 hE0 hd
          have hS := hS.step hE0
          refine r_index rfl rfl sl_79 (by omega) rfl rfl ?_
          refine wpl_end ?_
          exact ⟨rfl, Ext.refl _ _, rfl⟩
        · -- op 9
          intro jnk vals lo hi w159 hE0 hd
          have hS := hS.step hE0
          refine r_indexa rfl rfl ar_78 (by omega) rfl rfl ?_
          refine wpl_end ?_
          exact ⟨rfl, Ext.refl _ _, rfl⟩
        · -- op 10
          intro jnk vals lo hi w160 hE0 hd
          have hS := hS.step hE0
          refine r_load rfl (ld_tab (u := dyesTab) (c := (i : Int)) (j := 1) (hS.get (i := 0) rfl) sc_3 (by simp only [List.length_cons, List.length_nil]; omega)) rfl rfl ?_
          refine wpl_end ?_
          exact ⟨rfl, Ext.refl _ _, rfl⟩
        · -- op 11
          intro jnk vals lo hi w162 hE0 hd
          have hS := hS.step hE0
          refine r_move (by conv => lhs; whnf) rfl rfl ?_
          refine wpl_end ?_
          exact ⟨rfl, Ext.refl _ _, rfl⟩
        · -- op 12
          intro jnk vals lo hi w163 hE0 hd
          have hS := hS.step hE0
          refine r_move (by conv => lhs; whnf) rfl rfl ?_
          refine wpl_end ?_
          exact ⟨rfl, Ext.refl _ _, rfl⟩
        · -- op 13
          intro jnk vals lo hi w164 hE0 hd
          have hS := hS.step hE0
          refine r_index rfl rfl sl_79 (by omega) rfl rfl ?_
          refine wpl_end ?_
          exact ⟨rfl, Ext.refl _ _, rfl⟩
        · -- op 14
          intro jnk vals lo hi w165 hE0 hd
          have hS := hS.step hE0
          refine r_indexa rfl rfl ar_78 (by omega) rfl rfl ?_
          refine wpl_end ?_
          exact ⟨rfl, Ext.refl _ _, rfl⟩
        · -- op 15
          intro jnk vals lo hi w166 hE0 hd
          have hS := hS.step hE0
          refine r_load rfl (ld_tab (u := dyesTab) (c := (i : Int)) (j := 2) (hS.get (i := 0) rfl) sc_3 (by simp only [List.length_cons, List.length_nil]; omega)) rfl rfl ?_
          refine wpl_end ?_
          exact ⟨rfl, Ext.refl _ _, rfl⟩
        · -- op 16
          intro jnk vals lo hi w168 hE0 hd
          have hS := hS.step hE0
          obtain ⟨q1, q2, hv0, hb1, hb2, hr1, hr2, hne⟩ := hd 0 (by decide) rfl
          rw [vset_eq hv0]
          refine r_call rfl (c37 _ ownB (some ⟨q1, 0, none⟩) (some ⟨q2, 0, none⟩) 3 3 2 2 (nb_h (hs := ownHanks) hb1 (by decide)) (nb_x (hs := ownHorses) hb2 (by decide)) (hP.ext hS.ext) (dyesTab.getD ((i : Int) * 5 + 0).toNat 0) (dyesTab.getD ((i : Int) * 5 + 1).toNat 0) (dyesTab.getD ((i : Int) * 5 + 2).toNat 0)) rfl rfl ?_
          rintro _ w169 ⟨hv169, hE⟩
          rw [hdV, hdE] at hv169
          subst hv169
          have hS := hS.step hE
          refine wpl_end ?_
          exact ⟨rfl, hE.of_no, rfl⟩
        · -- op 17
          intro jnk vals lo hi w170 hE0 hd
          have hS := hS.step hE0
          refine r_move (by conv => lhs; whnf) rfl rfl ?_
          refine wpl_end ?_
          exact ⟨rfl, Ext.refl _ _, rfl⟩
        · -- op 18
          intro jnk vals lo hi w171 hE0 hd
          have hS := hS.step hE0
          refine r_extract rfl rfl rfl rfl ?_
          refine wpl_end ?_
          exact ⟨rfl, Ext.refl _ _, rfl⟩
        · -- op 19
          intro jnk vals lo hi w172 hE0 hd
          have hS := hS.step hE0
          refine r_extract rfl rfl rfl rfl ?_
          refine wpl_end ?_
          exact ⟨rfl, Ext.refl _ _, rfl⟩
        · -- op 20
          intro jnk vals lo hi w173 hE0 hd
          have hS := hS.step hE0
          refine r_extract rfl rfl rfl rfl ?_
          refine wpl_end ?_
          exact ⟨rfl, Ext.refl _ _, rfl⟩
        · -- op 21
          intro jnk vals lo hi w174 hE0 hd
          have hS := hS.step hE0
          refine r_assign (by conv => lhs; whnf) rfl rfl ?_
          refine wpl_end ?_
          exact ⟨rfl, Ext.refl _ _, rfl⟩
        · -- op 22
          intro jnk vals lo hi w175 hE0 hd
          have hS := hS.step hE0
          refine r_assign (by conv => lhs; whnf) rfl rfl ?_
          refine wpl_end ?_
          exact ⟨rfl, Ext.refl _ _, rfl⟩
      · intro φ hφ v lo hi w1 w2 hEa hEb
        simp at hφ
        subst hφ
        exact nba_stays hEa hEb (fun b hb => hb.elim)
      intro jnk vals lo hi w176 hE0 hsat hdj hbd
      have hS := hS.step hE0
      refine r_assign (by conv => lhs; whnf) rfl rfl ?_
      refine wpl_nil ?_
      refine thn ?_
      refine k_seq ?_
      refine k_region ?_
      refine r_move (by conv => lhs; whnf) rfl rfl ?_
      refine r_neq rfl rfl rfl rfl ?_
      refine r_move (by conv => lhs; whnf) rfl rfl ?_
      refine r_move (by conv => lhs; whnf) rfl rfl ?_
      refine r_move (by conv => lhs; whnf) rfl rfl ?_
      refine r_move (by conv => lhs; whnf) rfl rfl ?_
      refine r_index rfl rfl sl_79 (by omega) rfl rfl ?_
      refine r_indexa rfl rfl ar_78 (by omega) rfl rfl ?_
      refine r_load rfl (ld_tab (u := dyesTab) (c := (i : Int)) (j := 3) (hS.get (i := 0) rfl) sc_3 (by simp only [List.length_cons, List.length_nil]; omega)) rfl rfl ?_
      refine r_neqv (v := false) rfl rfl (by simp) rfl rfl ?_
      refine r_pick_f rfl (by conv => lhs; whnf) rfl rfl ?_
      refine r_move (by conv => lhs; whnf) rfl rfl ?_
      refine r_move (by conv => lhs; whnf) rfl rfl ?_
      refine r_move (by conv => lhs; whnf) rfl rfl ?_
      refine r_move (by conv => lhs; whnf) rfl rfl ?_
      refine r_index rfl rfl sl_79 (by omega) rfl rfl ?_
      refine r_indexa rfl rfl ar_78 (by omega) rfl rfl ?_
      refine r_load rfl (ld_tab (u := dyesTab) (c := (i : Int)) (j := 4) (hS.get (i := 0) rfl) sc_3 (by simp only [List.length_cons, List.length_nil]; omega)) rfl rfl ?_
      refine r_neqv (v := false) rfl rfl (by simp) rfl rfl ?_
      refine r_pick_f rfl (by conv => lhs; whnf) rfl rfl ?_
      refine wpl_nil ?_
      refine thn ?_
      refine k_cond_f rfl ?_
      refine k_skip ?_
      refine blk_n ?_
      refine thn ?_
      refine k_region ?_
      refine r_move (by conv => lhs; whnf) rfl rfl ?_
      refine r_add rfl rfl rfl rfl (by omega) ?_
      refine r_assign (by conv => lhs; whnf) rfl rfl ?_
      refine wpl_nil ?_
      refine thn ?_
      refine ⟨i + 1, ⟨rfl, trivial⟩, ?_, ?_, ?_, rfl⟩
      · exact ⟨by omega, hS.take 1⟩
      · omega
      · (repeat (first | exact Agree.refl _ _ | exact agree_hv rfl (Agree.refl _ _) | refine agree_upd rfl ?_ | refine agree_mkF rfl ?_ | refine agree_hv rfl ?_))
    · -- f
      have hc1470 := hc147
      (try simp only [decide_eq_true_eq, decide_eq_false_iff_not, Bool.and_eq_true, Bool.and_eq_false_iff, Bool.not_eq_true', Bool.not_eq_false', Int.not_lt, Int.not_le] at hc147)
      refine k_exit ?_
      refine thn_e ?_
      refine thn_e ?_
      refine blk_e ?_
      refine thn ?_
      refine k_seq ?_
      refine k_region ?_
      refine r_call rfl (c45 _) rfl rfl ?_
      rintro _ w181 ⟨pa181, pb181, rfl, hE, hb1, hb2, hr1, hr2, hne⟩
      have hS := NewBook.add hS hE hb1 hb2 hr1 hr2 hne
      refine r_buildSlice hS us_26 sz_3 z_3 rfl rfl rfl rfl rfl ?_
      intro b411 w182 hS hE hB411
      refine r_call rfl (c18 _ ownB (some ⟨pa181, 0, none⟩) (some ⟨pb181, 0, none⟩) 3 3 2 2 (nb_h (hs := ownHanks) (hS.get (i := 1) rfl) (by decide)) (nb_x (hs := ownHorses) (hS.get (i := 2) rfl) (by decide)) (hP.ext hS.ext) [0, 0, 1, 1] _ 4 4 (cells_row (vs := [0, 0, 1, 1]) (show Cells _ _ [iv 0, iv 0, iv 1, iv 1] from box_cells (hS.get (i := 3) rfl) 0) (by decide))) rfl rfl ?_
      rintro _ w183 ⟨hv183, hE⟩
      simp only [k46.1, k46.2] at hv183
      subst hv183
      have hS := hS.step hE
      refine r_move (by conv => lhs; whnf) rfl rfl ?_
      refine r_extract rfl rfl rfl rfl ?_
      refine r_extract rfl rfl rfl rfl ?_
      refine r_assign (by conv => lhs; whnf) rfl rfl ?_
      refine r_assign (by conv => lhs; whnf) rfl rfl ?_
      refine wpl_nil ?_
      refine thn ?_
      refine k_seq ?_
      (try simp only [List.nil_append, List.cons_append, List.set_cons_zero, List.set_cons_succ] at hS)
      refine k_region ?_
      refine r_call rfl (c45 _) rfl rfl ?_
      rintro _ w184 ⟨pa184, pb184, rfl, hE, hb1, hb2, hr1, hr2, hne⟩
      have hS := NewBook.add hS hE hb1 hb2 hr1 hr2 hne
      refine r_buildSlice hS us_26 sz_3 z_3 rfl rfl rfl rfl rfl ?_
      intro b417 w185 hS hE hB417
      refine r_call rfl (c18 _ ownB (some ⟨pa184, 0, none⟩) (some ⟨pb184, 0, none⟩) 3 3 2 2 (nb_h (hs := ownHanks) (hS.get (i := 4) rfl) (by decide)) (nb_x (hs := ownHorses) (hS.get (i := 5) rfl) (by decide)) (hP.ext hS.ext) [0, 1, 1, 1] _ 4 4 (cells_row (vs := [0, 1, 1, 1]) (show Cells _ _ [iv 0, iv 1, iv 1, iv 1] from box_cells (hS.get (i := 6) rfl) 0) (by decide))) rfl rfl ?_
      rintro _ w186 ⟨hv186, hE⟩
      simp only [k47.1, k47.2] at hv186
      subst hv186
      have hS := hS.step hE
      refine r_move (by conv => lhs; whnf) rfl rfl ?_
      refine r_extract rfl rfl rfl rfl ?_
      refine r_extract rfl rfl rfl rfl ?_
      refine r_assign (by conv => lhs; whnf) rfl rfl ?_
      refine r_assign (by conv => lhs; whnf) rfl rfl ?_
      refine wpl_nil ?_
      refine thn ?_
      refine k_seq ?_
      (try simp only [List.nil_append, List.cons_append, List.set_cons_zero, List.set_cons_succ] at hS)
      refine k_region ?_
      refine r_call rfl (c45 _) rfl rfl ?_
      rintro _ w187 ⟨pa187, pb187, rfl, hE, hb1, hb2, hr1, hr2, hne⟩
      have hS := NewBook.add hS hE hb1 hb2 hr1 hr2 hne
      refine r_buildSlice hS us_26 sz_3 z_3 rfl rfl rfl rfl rfl ?_
      intro b423 w188 hS hE hB423
      refine r_call rfl (c19 _ ownB (some ⟨pa187, 0, none⟩) (some ⟨pb187, 0, none⟩) 3 3 2 2 (nb_h (hs := ownHanks) (hS.get (i := 7) rfl) (by decide)) (nb_x (hs := ownHorses) (hS.get (i := 8) rfl) (by decide)) (hP.ext hS.ext) [0, 0, 1, 1] _ 4 4 (cells_row (vs := [0, 0, 1, 1]) (show Cells _ _ [iv 0, iv 0, iv 1, iv 1] from box_cells (hS.get (i := 9) rfl) 0) (by decide))) rfl rfl ?_
      rintro _ w189 ⟨hv189, hE⟩
      simp only [k48.1, k48.2] at hv189
      subst hv189
      have hS := hS.step hE
      refine r_move (by conv => lhs; whnf) rfl rfl ?_
      refine r_extract rfl rfl rfl rfl ?_
      refine r_extract rfl rfl rfl rfl ?_
      refine r_alloc hS z_35 rfl rfl rfl ?_
      intro b52 w190 hS hE hB52
      refine r_storea hS (i := 10) rfl rfl rfl sz_35 rfl rfl rfl ?_
      intro w191 hS hE
      refine r_assign (by conv => lhs; whnf) rfl rfl ?_
      refine wpl_nil ?_
      refine thn ?_
      refine k_seq ?_
      (try simp only [List.nil_append, List.cons_append, List.set_cons_zero, List.set_cons_succ] at hS)
      refine k_region ?_
      refine r_call rfl (c45 _) rfl rfl ?_
      rintro _ w192 ⟨pa192, pb192, rfl, hE, hb1, hb2, hr1, hr2, hne⟩
      have hS := NewBook.add hS hE hb1 hb2 hr1 hr2 hne
      refine r_call rfl (c26 _ ownB (some ⟨pa192, 0, none⟩) (some ⟨pb192, 0, none⟩) 3 3 2 2 (nb_h (hs := ownHanks) (hS.get (i := 11) rfl) (by decide)) (nb_x (hs := ownHorses) (hS.get (i := 12) rfl) (by decide)) (hP.ext hS.ext)) rfl rfl ?_
      rintro _ w193 ⟨aq193, cq193, hv193, hE, hrd, hnw⟩
      simp only [k49.1, k49.2, List.length_cons, List.length_nil] at hv193 hrd hnw
      subst hv193
      have hS := hS.add hE (x := lst aq193 4 [0, 0, 1, 1]) hrd hnw
      refine r_move (by conv => lhs; whnf) rfl rfl ?_
      refine r_extract rfl rfl rfl rfl ?_
      refine r_extract rfl rfl rfl rfl ?_
      refine r_assign (by conv => lhs; whnf) rfl rfl ?_
      refine r_assign (by conv => lhs; whnf) rfl rfl ?_
      refine wpl_nil ?_
      refine thn ?_
      refine k_seq ?_
      (try simp only [List.nil_append, List.cons_append, List.set_cons_zero, List.set_cons_succ] at hS)
      refine k_region ?_
      refine r_call rfl (c45 _) rfl rfl ?_
      rintro _ w194 ⟨pa194, pb194, rfl, hE, hb1, hb2, hr1, hr2, hne⟩
      have hS := NewBook.add hS hE hb1 hb2 hr1 hr2 hne
      refine r_call rfl (c27 _ ownB (some ⟨pa194, 0, none⟩) (some ⟨pb194, 0, none⟩) 3 3 2 2 (nb_h (hs := ownHanks) (hS.get (i := 14) rfl) (by decide)) (nb_x (hs := ownHorses) (hS.get (i := 15) rfl) (by decide)) (hP.ext hS.ext)) rfl rfl ?_
      rintro _ w195 ⟨aq195, cq195, hv195, hE, hrd, hnw⟩
      simp only [k50.1, k50.2, List.length_cons, List.length_nil] at hv195 hrd hnw
      subst hv195
      have hS := hS.step hE
      refine r_move (by conv => lhs; whnf) rfl rfl ?_
      refine r_extract rfl rfl rfl rfl ?_
      refine r_extract rfl rfl rfl rfl ?_
      refine r_assign (by conv => lhs; whnf) rfl rfl ?_
      refine r_assign (by conv => lhs; whnf) rfl rfl ?_
      refine wpl_nil ?_
      refine thn ?_
      refine k_seq ?_
      (try simp only [List.nil_append, List.cons_append, List.set_cons_zero, List.set_cons_succ] at hS)
      refine k_region ?_
      refine r_call rfl (c45 _) rfl rfl ?_
      rintro _ w196 ⟨pa196, pb196, rfl, hE, hb1, hb2, hr1, hr2, hne⟩
      have hS := NewBook.add hS hE hb1 hb2 hr1 hr2 hne
      refine r_call rfl (c33 _ ownB (some ⟨pa196, 0, none⟩) (some ⟨pb196, 0, none⟩) 3 3 2 2 (nb_h (hs := ownHanks) (hS.get (i := 16) rfl) (by decide)) (nb_x (hs := ownHorses) (hS.get (i := 17) rfl) (by decide)) (hP.ext hS.ext) (by decide) 9) rfl rfl ?_
      rintro _ w197 ⟨hv197, hE⟩
      simp only [k51.1, k51.2] at hv197
      subst hv197
      have hS := hS.step hE
      refine r_move (by conv => lhs; whnf) rfl rfl ?_
      refine r_extract rfl rfl rfl rfl ?_
      refine r_extract rfl rfl rfl rfl ?_
      refine r_assign (by conv => lhs; whnf) rfl rfl ?_
      refine r_assign (by conv => lhs; whnf) rfl rfl ?_
      refine wpl_nil ?_
      refine thn ?_
      refine k_seq ?_
      (try simp only [List.nil_append, List.cons_append, List.set_cons_zero, List.set_cons_succ] at hS)
      refine k_region ?_
      refine r_call rfl (c45 _) rfl rfl ?_
      rintro _ w198 ⟨pa198, pb198, rfl, hE, hb1, hb2, hr1, hr2, hne⟩
      have hS := NewBook.add hS hE hb1 hb2 hr1 hr2 hne
      refine r_call rfl (c36 _ ownB (some ⟨pa198, 0, none⟩) (some ⟨pb198, 0, none⟩) 3 3 2 2 (nb_h (hs := ownHanks) (hS.get (i := 18) rfl) (by decide)) (nb_x (hs := ownHorses) (hS.get (i := 19) rfl) (by decide)) (hP.ext hS.ext)) rfl rfl ?_
      rintro _ w199 ⟨hv199, hE⟩
      simp only [k52.1, k52.2] at hv199
      subst hv199
      have hS := hS.step hE
      refine r_move (by conv => lhs; whnf) rfl rfl ?_
      refine r_extract rfl rfl rfl rfl ?_
      refine r_extract rfl rfl rfl rfl ?_
      refine r_assign (by conv => lhs; whnf) rfl rfl ?_
      refine r_assign (by conv => lhs; whnf) rfl rfl ?_
      refine wpl_nil ?_
      refine thn ?_
      refine k_seq ?_
      (try simp only [List.nil_append, List.cons_append, List.set_cons_zero, List.set_cons_succ] at hS)
      refine k_region ?_
      refine r_build z_25 pl_25 rfl rfl rfl ?_
      refine r_call rfl (c26 _ emptyB none none 0 0 0 0 rdrow_nil rdrow_nil (hP.ext hS.ext)) rfl rfl ?_
      rintro _ w200 ⟨aq200, cq200, hv200, hE, hrd, hnw⟩
      simp only [k53.1, k53.2, List.length_cons, List.length_nil] at hv200 hrd hnw
      subst hv200
      have hS := hS.step hE
      refine r_move (by conv => lhs; whnf) rfl rfl ?_
      refine r_extract rfl rfl rfl rfl ?_
      refine r_extract rfl rfl rfl rfl ?_
      refine r_assign (by conv => lhs; whnf) rfl rfl ?_
      refine r_assign (by conv => lhs; whnf) rfl rfl ?_
      refine wpl_nil ?_
      refine thn ?_
      refine k_seq ?_
      (try simp only [List.nil_append, List.cons_append, List.set_cons_zero, List.set_cons_succ] at hS)
      refine k_region ?_
      refine r_build z_25 pl_25 rfl rfl rfl ?_
      refine r_call rfl (c19 _ emptyB none none 0 0 0 0 rdrow_nil rdrow_nil (hP.ext hS.ext) [] none 0 0 rd_nil) rfl rfl ?_
      rintro _ w201 ⟨hv201, hE⟩
      simp only [k54.1, k54.2] at hv201
      subst hv201
      have hS := hS.step hE
      refine r_move (by conv => lhs; whnf) rfl rfl ?_
      refine r_extract rfl rfl rfl rfl ?_
      refine r_extract rfl rfl rfl rfl ?_
      refine r_alloc hS z_35 rfl rfl rfl ?_
      intro b58 w202 hS hE hB58
      refine r_storea hS (i := 20) rfl rfl rfl sz_35 rfl rfl rfl ?_
      intro w203 hS hE
      refine r_assign (by conv => lhs; whnf) rfl rfl ?_
      refine wpl_nil ?_
      refine thn ?_
      refine k_seq ?_
      (try simp only [List.nil_append, List.cons_append, List.set_cons_zero, List.set_cons_succ] at hS)
      refine k_region ?_
      refine r_build z_25 pl_25 rfl rfl rfl ?_
      refine r_call rfl (c36 _ emptyB none none 0 0 0 0 rdrow_nil rdrow_nil (hP.ext hS.ext)) rfl rfl ?_
      rintro _ w204 ⟨hv204, hE⟩
      simp only [k55.1, k55.2] at hv204
      subst hv204
      have hS := hS.step hE
      refine r_move (by conv => lhs; whnf) rfl rfl ?_
      refine r_extract rfl rfl rfl rfl ?_
      refine r_extract rfl rfl rfl rfl ?_
      refine r_assign (by conv => lhs; whnf) rfl rfl ?_
      refine r_assign (by conv => lhs; whnf) rfl rfl ?_
      refine wpl_nil ?_
      refine thn ?_
      refine k_seq ?_
      (try simp only [List.nil_append, List.cons_append, List.set_cons_zero, List.set_cons_succ] at hS)
      have hSb := hS
      apply k_draw (m := 85) (ss := (.val _ :: .val _ :: .val _ :: .val _ :: .val _ :: .val _ :: .val _ :: .val _ :: .val _ :: .val _ :: .val _ :: .val _ :: .val _ :: .val _ :: .val _ :: .val _ :: .val _ :: .val _ :: .val _ :: .val _ :: .val _ :: .val _ :: .val _ :: .val _ :: .val _ :: .val _ :: .val _ :: .val _ :: .ex (Row [.int .i64 0, .int .i64 0, .int .i64 1, .int .i64 1] 4 4) :: .val _ :: .val _ :: .val _ :: .val _ :: .val _ :: .val _ :: .val _ :: .val _ :: .val _ :: .val _ :: .val _ :: .val _ :: .val _ :: .val _ :: .val _ :: .val _ :: .val _ :: .val _ :: .val _ :: .val _ :: .val _ :: .val _ :: .val _ :: .val _ :: .val _ :: .val _ :: .val _ :: .val _ :: .val _ :: .val _ :: .val _ :: .val _ :: .val _ :: .val _ :: .val _ :: .val _ :: .val _ :: .val _ :: .val _ :: .val _ :: .val _ :: .val _ :: .val _ :: .val _ :: .val _ :: .val _ :: .val _ :: .val _ :: .val _ :: .val _ :: .val _ :: .val _ :: .val _ :: .val _ :: .val _ :: .val _ :: [])) mixed rfl (by kernel_rfl) (by kernel_rfl) rfl rfl (conB_noSt rfl)
      · refine ⟨?_, ?_, ?_, ?_, ?_, ?_, ?_, ?_, ?_, ?_, ?_, ?_, ?_, ?_, ?_, ?_, ?_, ?_, ?_, ?_, ?_, ?_, ?_, ?_, ?_, ?_, ?_, ?_, ?_, ?_, ?_, ?_, ?_, ?_, ?_, ?_, ?_, ?_, ?_, ?_, ?_, ?_, ?_, ?_, ?_, ?_, ?_, ?_, ?_, ?_, ?_, ?_, ?_, ?_, ?_, ?_, ?_, ?_, ?_, ?_, ?_, ?_, ?_, ?_, ?_, ?_, ?_, ?_, ?_, ?_, ?_, ?_, ?_, ?_, ?_, ?_, ?_, ?_, ?_, ?_, ?_, ?_, ?_, ?_, ?_, trivial⟩
        · -- op 0
          intro jnk vals lo hi w205 hE0 hd
          have hS := hS.step hE0
          refine r_move (by conv => lhs; whnf) rfl rfl ?_
          refine wpl_end ?_
          exact ⟨rfl, Ext.refl _ _, rfl⟩
        · -- op 1
          intro jnk vals lo hi w206 hE0 hd
          have hS := hS.step hE0
          refine r_eql rfl rfl rfl rfl ?_
          refine wpl_end ?_
          exact ⟨rfl, Ext.refl _ _, rfl⟩
        · -- op 2
          intro jnk vals lo hi w207 hE0 hd
          have hS := hS.step hE0
          refine r_move (by conv => lhs; whnf) rfl rfl ?_
          refine wpl_end ?_
          exact ⟨rfl, Ext.refl _ _, rfl⟩
        · -- op 3
          intro jnk vals lo hi w208 hE0 hd
          have hS := hS.step hE0
          refine r_move (by conv => lhs; whnf) rfl rfl ?_
          refine wpl_end ?_
          exact ⟨rfl, Ext.refl _ _, rfl⟩
        · -- op 4
          intro jnk vals lo hi w209 hE0 hd
          have hS := hS.step hE0
          refine r_pick_t rfl (by conv => lhs; whnf) rfl rfl ?_
          refine wpl_end ?_
          exact ⟨rfl, Ext.refl _ _, rfl⟩
        · -- op 5
          intro jnk vals lo hi w210 hE0 hd
          have hS := hS.step hE0
          refine r_move (by conv => lhs; whnf) rfl rfl ?_
          refine wpl_end ?_
          exact ⟨rfl, Ext.refl _ _, rfl⟩
        · -- op 6
          intro jnk vals lo hi w211 hE0 hd
          have hS := hS.step hE0
          refine r_move (by conv => lhs; whnf) rfl rfl ?_
          refine wpl_end ?_
          exact ⟨rfl, Ext.refl _ _, rfl⟩
        · -- op 7
          intro jnk vals lo hi w212 hE0 hd
          have hS := hS.step hE0
          refine r_eql rfl rfl rfl rfl ?_
          refine wpl_end ?_
          exact ⟨rfl, Ext.refl _ _, rfl⟩
        · -- op 8
          intro jnk vals lo hi w213 hE0 hd
          have hS := hS.step hE0
          refine r_pick_t rfl (by conv => lhs; whnf) rfl rfl ?_
          refine wpl_end ?_
          exact ⟨rfl, Ext.refl _ _, rfl⟩
        · -- op 9
          intro jnk vals lo hi w214 hE0 hd
          have hS := hS.step hE0
          refine r_move (by conv => lhs; whnf) rfl rfl ?_
          refine wpl_end ?_
          exact ⟨rfl, Ext.refl _ _, rfl⟩
        · -- op 10
          intro jnk vals lo hi w215 hE0 hd
          have hS := hS.step hE0
          refine r_move (by conv => lhs; whnf) rfl rfl ?_
          refine wpl_end ?_
          exact ⟨rfl, Ext.refl _ _, rfl⟩
        · -- op 11
          intro jnk vals lo hi w216 hE0 hd
          have hS := hS.step hE0
          refine r_not rfl rfl rfl ?_
          refine wpl_end ?_
          exact ⟨rfl, Ext.refl _ _, rfl⟩
        · -- op 12
          intro jnk vals lo hi w217 hE0 hd
          have hS := hS.step hE0
          refine r_pick_t rfl (by conv => lhs; whnf) rfl rfl ?_
          refine wpl_end ?_
          exact ⟨rfl, Ext.refl _ _, rfl⟩
        · -- op 13
          intro jnk vals lo hi w218 hE0 hd
          have hS := hS.step hE0
          refine r_move (by conv => lhs; whnf) rfl rfl ?_
          refine wpl_end ?_
          exact ⟨rfl, Ext.refl _ _, rfl⟩
        · -- op 14
          intro jnk vals lo hi w219 hE0 hd
          have hS := hS.step hE0
          refine r_move (by conv => lhs; whnf) rfl rfl ?_
          refine wpl_end ?_
          exact ⟨rfl, Ext.refl _ _, rfl⟩
        · -- op 15
          intro jnk vals lo hi w220 hE0 hd
          have hS := hS.step hE0
          refine r_eql rfl rfl rfl rfl ?_
          refine wpl_end ?_
          exact ⟨rfl, Ext.refl _ _, rfl⟩
        · -- op 16
          intro jnk vals lo hi w221 hE0 hd
          have hS := hS.step hE0
          refine r_pick_t rfl (by conv => lhs; whnf) rfl rfl ?_
          refine wpl_end ?_
          exact ⟨rfl, Ext.refl _ _, rfl⟩
        · -- op 17
          intro jnk vals lo hi w222 hE0 hd
          have hS := hS.step hE0
          refine r_move (by conv => lhs; whnf) rfl rfl ?_
          refine wpl_end ?_
          exact ⟨rfl, Ext.refl _ _, rfl⟩
        · -- op 18
          intro jnk vals lo hi w223 hE0 hd
          have hS := hS.step hE0
          refine r_load rfl (ld_ba hS (i := 10) rfl rfl rfl ag_35) rfl rfl ?_
          refine wpl_end ?_
          exact ⟨rfl, Ext.refl _ _, rfl⟩
        · -- op 19
          intro jnk vals lo hi w224 hE0 hd
          have hS := hS.step hE0
          refine r_call rfl (c25 _ _ _) rfl rfl ?_
          rintro _ w225 ⟨rfl, hE⟩
          have hS := hS.step hE
          refine wpl_end ?_
          exact ⟨rfl, hE.of_no, rfl⟩
        · -- op 20
          intro jnk vals lo hi w226 hE0 hd
          have hS := hS.step hE0
          refine r_eqls (a := [0, 2]) (b := [0, 2]) ik_35 eg_35 rfl rfl rfl rfl rfl rfl ?_
          refine wpl_end ?_
          exact ⟨rfl, Ext.refl _ _, rfl⟩
        · -- op 21
          intro jnk vals lo hi w228 hE0 hd
          have hS := hS.step hE0
          refine r_pick_t rfl (by conv => lhs; whnf) rfl rfl ?_
          refine wpl_end ?_
          exact ⟨rfl, Ext.refl _ _, rfl⟩
        · -- op 22
          intro jnk vals lo hi w229 hE0 hd
          have hS := hS.step hE0
          refine r_move (by conv => lhs; whnf) rfl rfl ?_
          refine wpl_end ?_
          exact ⟨rfl, Ext.refl _ _, rfl⟩
        · -- op 23
          intro jnk vals lo hi w230 hE0 hd
          have hS := hS.step hE0
          refine r_move (by conv => lhs; whnf) rfl rfl ?_
          refine wpl_end ?_
          exact ⟨rfl, Ext.refl _ _, rfl⟩
        · -- op 24
          intro jnk vals lo hi w231 hE0 hd
          have hS := hS.step hE0
          refine r_eql rfl rfl rfl rfl ?_
          refine wpl_end ?_
          exact ⟨rfl, Ext.refl _ _, rfl⟩
        · -- op 25
          intro jnk vals lo hi w232 hE0 hd
          have hS := hS.step hE0
          refine r_pick_t rfl (by conv => lhs; whnf) rfl rfl ?_
          refine wpl_end ?_
          exact ⟨rfl, Ext.refl _ _, rfl⟩
        · -- op 26
          intro jnk vals lo hi w233 hE0 hd
          have hS := hS.step hE0
          refine r_move (by conv => lhs; whnf) rfl rfl ?_
          refine wpl_end ?_
          exact ⟨rfl, Ext.refl _ _, rfl⟩
        · -- op 27
          intro jnk vals lo hi w234 hE0 hd
          have hS := hS.step hE0
          refine r_move (by conv => lhs; whnf) rfl rfl ?_
          refine wpl_end ?_
          exact ⟨rfl, Ext.refl _ _, rfl⟩
        · -- op 28
          intro jnk vals lo hi w235 hE0 hd
          have hS := hS.step hE0
          refine r_buildSlice hS us_26 sz_3 z_3 rfl rfl rfl rfl rfl ?_
          intro b490 w236 hS hE hB490
          refine wpl_end ?_
          exact ⟨rfl, hE.of_no, row_build (hS.get (i := 21) rfl) hB490⟩
        · -- op 29
          intro jnk vals lo hi w237 hE0 hd
          have hS := hS.step hE0
          obtain ⟨r28, hv28, hl28, hh28, hr28⟩ := hd 28 (by decide) rfl
          rw [vset_eq hv28]
          refine r_call rfl (c44 _ [0, 0, 1, 1] [0, 0, 1, 1] _ (some ⟨r28, 0, none⟩) 4 _ 4 4 (hS.get (i := 13) rfl) (cells_row (vs := [0, 0, 1, 1]) hr28 (by simp))) rfl rfl ?_
          rintro _ w238 ⟨rfl, hE⟩
          have hS := hS.step hE
          refine wpl_end ?_
          exact ⟨rfl, hE.of_no, rfl⟩
        · -- op 30
          intro jnk vals lo hi w239 hE0 hd
          have hS := hS.step hE0
          refine r_pick_t rfl (by conv => lhs; whnf) rfl rfl ?_
          refine wpl_end ?_
          exact ⟨rfl, Ext.refl _ _, rfl⟩
        · -- op 31
          intro jnk vals lo hi w240 hE0 hd
          have hS := hS.step hE0
          refine r_move (by conv => lhs; whnf) rfl rfl ?_
          refine wpl_end ?_
          exact ⟨rfl, Ext.refl _ _, rfl⟩
        · -- op 32
          intro jnk vals lo hi w241 hE0 hd
          have hS := hS.step hE0
          refine r_move (by conv => lhs; whnf) rfl rfl ?_
          refine wpl_end ?_
          exact ⟨rfl, Ext.refl _ _, rfl⟩
        · -- op 33
          intro jnk vals lo hi w242 hE0 hd
          have hS := hS.step hE0
          refine r_eql rfl rfl rfl rfl ?_
          refine wpl_end ?_
          exact ⟨rfl, Ext.refl _ _, rfl⟩
        · -- op 34
          intro jnk vals lo hi w243 hE0 hd
          have hS := hS.step hE0
          refine r_pick_t rfl (by conv => lhs; whnf) rfl rfl ?_
          refine wpl_end ?_
          exact ⟨rfl, Ext.refl _ _, rfl⟩
        · -- op 35
          intro jnk vals lo hi w244 hE0 hd
          have hS := hS.step hE0
          refine r_move (by conv => lhs; whnf) rfl rfl ?_
          refine wpl_end ?_
          exact ⟨rfl, Ext.refl _ _, rfl⟩
        · -- op 36
          intro jnk vals lo hi w245 hE0 hd
          have hS := hS.step hE0
          refine r_move (by conv => lhs; whnf) rfl rfl ?_
          refine wpl_end ?_
          exact ⟨rfl, Ext.refl _ _, rfl⟩
        · -- op 37
          intro jnk vals lo hi w246 hE0 hd
          have hS := hS.step hE0
          refine r_len rfl sl_26 rfl rfl ?_
          refine wpl_end ?_
          exact ⟨rfl, Ext.refl _ _, rfl⟩
        · -- op 38
          intro jnk vals lo hi w247 hE0 hd
          have hS := hS.step hE0
          refine r_eql rfl rfl rfl rfl ?_
          refine wpl_end ?_
          exact ⟨rfl, Ext.refl _ _, rfl⟩
        · -- op 39
          intro jnk vals lo hi w248 hE0 hd
          have hS := hS.step hE0
          refine r_pick_t rfl (by conv => lhs; whnf) rfl rfl ?_
          refine wpl_end ?_
          exact ⟨rfl, Ext.refl _ _, rfl⟩
        · -- op 40
          intro jnk vals lo hi w249 hE0 hd
          have hS := hS.step hE0
          refine r_move (by conv => lhs; whnf) rfl rfl ?_
          refine wpl_end ?_
          exact ⟨rfl, Ext.refl _ _, rfl⟩
        · -- op 41
          intro jnk vals lo hi w250 hE0 hd
          have hS := hS.step hE0
          refine r_move (by conv => lhs; whnf) rfl rfl ?_
          refine wpl_end ?_
          exact ⟨rfl, Ext.refl _ _, rfl⟩
        · -- op 42
          intro jnk vals lo hi w251 hE0 hd
          have hS := hS.step hE0
          refine r_eql rfl rfl rfl rfl ?_
          refine wpl_end ?_
          exact ⟨rfl, Ext.refl _ _, rfl⟩
        · -- op 43
          intro jnk vals lo hi w252 hE0 hd
          have hS := hS.step hE0
          refine r_pick_t rfl (by conv => lhs; whnf) rfl rfl ?_
          refine wpl_end ?_
          exact ⟨rfl, Ext.refl _ _, rfl⟩
        · -- op 44
          intro jnk vals lo hi w253 hE0 hd
          have hS := hS.step hE0
          refine r_move (by conv => lhs; whnf) rfl rfl ?_
          refine wpl_end ?_
          exact ⟨rfl, Ext.refl _ _, rfl⟩
        · -- op 45
          intro jnk vals lo hi w254 hE0 hd
          have hS := hS.step hE0
          refine r_move (by conv => lhs; whnf) rfl rfl ?_
          refine wpl_end ?_
          exact ⟨rfl, Ext.refl _ _, rfl⟩
        · -- op 46
          intro jnk vals lo hi w255 hE0 hd
          have hS := hS.step hE0
          refine r_eql rfl rfl rfl rfl ?_
          refine wpl_end ?_
          exact ⟨rfl, Ext.refl _ _, rfl⟩
        · -- op 47
          intro jnk vals lo hi w256 hE0 hd
          have hS := hS.step hE0
          refine r_pick_t rfl (by conv => lhs; whnf) rfl rfl ?_
          refine wpl_end ?_
          exact ⟨rfl, Ext.refl _ _, rfl⟩
        · -- op 48
          intro jnk vals lo hi w257 hE0 hd
          have hS := hS.step hE0
          refine r_move (by conv => lhs; whnf) rfl rfl ?_
          refine wpl_end ?_
          exact ⟨rfl, Ext.refl _ _, rfl⟩
        · -- op 49
          intro jnk vals lo hi w258 hE0 hd
          have hS := hS.step hE0
          refine r_move (by conv => lhs; whnf) rfl rfl ?_
          refine wpl_end ?_
          exact ⟨rfl, Ext.refl _ _, rfl⟩
        · -- op 50
          intro jnk vals lo hi w259 hE0 hd
          have hS := hS.step hE0
          refine r_eql rfl rfl rfl rfl ?_
          refine wpl_end ?_
          exact ⟨rfl, Ext.refl _ _, rfl⟩
        · -- op 51
          intro jnk vals lo hi w260 hE0 hd
          have hS := hS.step hE0
          refine r_pick_t rfl (by conv => lhs; whnf) rfl rfl ?_
          refine wpl_end ?_
          exact ⟨rfl, Ext.refl _ _, rfl⟩
        · -- op 52
          intro jnk vals lo hi w261 hE0 hd
          have hS := hS.step hE0
          refine r_move (by conv => lhs; whnf) rfl rfl ?_
          refine wpl_end ?_
          exact ⟨rfl, Ext.refl _ _, rfl⟩
        · -- op 53
          intro jnk vals lo hi w262 hE0 hd
          have hS := hS.step hE0
          refine r_move (by conv => lhs; whnf) rfl rfl ?_
          refine wpl_end ?_
          exact ⟨rfl, Ext.refl _ _, rfl⟩
        · -- op 54
          intro jnk vals lo hi w263 hE0 hd
          have hS := hS.step hE0
          refine r_pick_t rfl (by conv => lhs; whnf) rfl rfl ?_
          refine wpl_end ?_
          exact ⟨rfl, Ext.refl _ _, rfl⟩
        · -- op 55
          intro jnk vals lo hi w264 hE0 hd
          have hS := hS.step hE0
          refine r_move (by conv => lhs; whnf) rfl rfl ?_
          refine wpl_end ?_
          exact ⟨rfl, Ext.refl _ _, rfl⟩
        · -- op 56
          intro jnk vals lo hi w265 hE0 hd
          have hS := hS.step hE0
          refine r_move (by conv => lhs; whnf) rfl rfl ?_
          refine wpl_end ?_
          exact ⟨rfl, Ext.refl _ _, rfl⟩
        · -- op 57
          intro jnk vals lo hi w266 hE0 hd
          have hS := hS.step hE0
          refine r_eql rfl rfl rfl rfl ?_
          refine wpl_end ?_
          exact ⟨rfl, Ext.refl _ _, rfl⟩
        · -- op 58
          intro jnk vals lo hi w267 hE0 hd
          have hS := hS.step hE0
          refine r_pick_t rfl (by conv => lhs; whnf) rfl rfl ?_
          refine wpl_end ?_
          exact ⟨rfl, Ext.refl _ _, rfl⟩
        · -- op 59
          intro jnk vals lo hi w268 hE0 hd
          have hS := hS.step hE0
          refine r_move (by conv => lhs; whnf) rfl rfl ?_
          refine wpl_end ?_
          exact ⟨rfl, Ext.refl _ _, rfl⟩
        · -- op 60
          intro jnk vals lo hi w269 hE0 hd
          have hS := hS.step hE0
          refine r_move (by conv => lhs; whnf) rfl rfl ?_
          refine wpl_end ?_
          exact ⟨rfl, Ext.refl _ _, rfl⟩
        · -- op 61
          intro jnk vals lo hi w270 hE0 hd
          have hS := hS.step hE0
          refine r_len rfl sl_26 rfl rfl ?_
          refine wpl_end ?_
          exact ⟨rfl, Ext.refl _ _, rfl⟩
        · -- op 62
          intro jnk vals lo hi w271 hE0 hd
          have hS := hS.step hE0
          refine r_eql rfl rfl rfl rfl ?_
          refine wpl_end ?_
          exact ⟨rfl, Ext.refl _ _, rfl⟩
        · -- op 63
          intro jnk vals lo hi w272 hE0 hd
          have hS := hS.step hE0
          refine r_pick_t rfl (by conv => lhs; whnf) rfl rfl ?_
          refine wpl_end ?_
          exact ⟨rfl, Ext.refl _ _, rfl⟩
        · -- op 64
          intro jnk vals lo hi w273 hE0 hd
          have hS := hS.step hE0
          refine r_move (by conv => lhs; whnf) rfl rfl ?_
          refine wpl_end ?_
          exact ⟨rfl, Ext.refl _ _, rfl⟩
        · -- op 65
          intro jnk vals lo hi w274 hE0 hd
          have hS := hS.step hE0
          refine r_move (by conv => lhs; whnf) rfl rfl ?_
          refine wpl_end ?_
          exact ⟨rfl, Ext.refl _ _, rfl⟩
        · -- op 66
          intro jnk vals lo hi w275 hE0 hd
          have hS := hS.step hE0
          refine r_eql rfl rfl rfl rfl ?_
          refine wpl_end ?_
          exact ⟨rfl, Ext.refl _ _, rfl⟩
        · -- op 67
          intro jnk vals lo hi w276 hE0 hd
          have hS := hS.step hE0
          refine r_pick_t rfl (by conv => lhs; whnf) rfl rfl ?_
          refine wpl_end ?_
          exact ⟨rfl, Ext.refl _ _, rfl⟩
        · -- op 68
          intro jnk vals lo hi w277 hE0 hd
          have hS := hS.step hE0
          refine r_move (by conv => lhs; whnf) rfl rfl ?_
          refine wpl_end ?_
          exact ⟨rfl, Ext.refl _ _, rfl⟩
        · -- op 69
          intro jnk vals lo hi w278 hE0 hd
          have hS := hS.step hE0
          refine r_load rfl (ld_ba hS (i := 20) rfl rfl rfl ag_35) rfl rfl ?_
          refine wpl_end ?_
          exact ⟨rfl, Ext.refl _ _, rfl⟩
        · -- op 70
          intro jnk vals lo hi w279 hE0 hd
          have hS := hS.step hE0
          refine r_call rfl (c21 _ _) rfl rfl ?_
          rintro _ w280 ⟨rfl, hE⟩
          have hS := hS.step hE
          refine wpl_end ?_
          exact ⟨rfl, hE.of_no, rfl⟩
        · -- op 71
          intro jnk vals lo hi w281 hE0 hd
          have hS := hS.step hE0
          refine r_eqls (a := [0, 0]) (b := [0, 0]) ik_35 eg_35 rfl rfl rfl rfl rfl rfl ?_
          refine wpl_end ?_
          exact ⟨rfl, Ext.refl _ _, rfl⟩
        · -- op 72
          intro jnk vals lo hi w283 hE0 hd
          have hS := hS.step hE0
          refine r_pick_t rfl (by conv => lhs; whnf) rfl rfl ?_
          refine wpl_end ?_
          exact ⟨rfl, Ext.refl _ _, rfl⟩
        · -- op 73
          intro jnk vals lo hi w284 hE0 hd
          have hS := hS.step hE0
          refine r_move (by conv => lhs; whnf) rfl rfl ?_
          refine wpl_end ?_
          exact ⟨rfl, Ext.refl _ _, rfl⟩
        · -- op 74
          intro jnk vals lo hi w285 hE0 hd
          have hS := hS.step hE0
          refine r_move (by conv => lhs; whnf) rfl rfl ?_
          refine wpl_end ?_
          exact ⟨rfl, Ext.refl _ _, rfl⟩
        · -- op 75
          intro jnk vals lo hi w286 hE0 hd
          have hS := hS.step hE0
          refine r_eql rfl rfl rfl rfl ?_
          refine wpl_end ?_
          exact ⟨rfl, Ext.refl _ _, rfl⟩
        · -- op 76
          intro jnk vals lo hi w287 hE0 hd
          have hS := hS.step hE0
          refine r_pick_t rfl (by conv => lhs; whnf) rfl rfl ?_
          refine wpl_end ?_
          exact ⟨rfl, Ext.refl _ _, rfl⟩
        · -- op 77
          intro jnk vals lo hi w288 hE0 hd
          have hS := hS.step hE0
          refine r_move (by conv => lhs; whnf) rfl rfl ?_
          refine wpl_end ?_
          exact ⟨rfl, Ext.refl _ _, rfl⟩
        · -- op 78
          intro jnk vals lo hi w289 hE0 hd
          have hS := hS.step hE0
          refine r_move (by conv => lhs; whnf) rfl rfl ?_
          refine wpl_end ?_
          exact ⟨rfl, Ext.refl _ _, rfl⟩
        · -- op 79
          intro jnk vals lo hi w290 hE0 hd
          have hS := hS.step hE0
          refine r_pick_t rfl (by conv => lhs; whnf) rfl rfl ?_
          refine wpl_end ?_
          exact ⟨rfl, Ext.refl _ _, rfl⟩
        · -- op 80
          intro jnk vals lo hi w291 hE0 hd
          have hS := hS.step hE0
          refine r_move (by conv => lhs; whnf) rfl rfl ?_
          refine wpl_end ?_
          exact ⟨rfl, Ext.refl _ _, rfl⟩
        · -- op 81
          intro jnk vals lo hi w292 hE0 hd
          have hS := hS.step hE0
          refine r_pick_t rfl (by conv => lhs; whnf) rfl rfl ?_
          refine wpl_end ?_
          exact ⟨rfl, Ext.refl _ _, rfl⟩
        · -- op 82
          intro jnk vals lo hi w293 hE0 hd
          have hS := hS.step hE0
          refine r_move (by conv => lhs; whnf) rfl rfl ?_
          refine wpl_end ?_
          exact ⟨rfl, Ext.refl _ _, rfl⟩
        · -- op 83
          intro jnk vals lo hi w294 hE0 hd
          have hS := hS.step hE0
          refine r_call rfl (c15 _ (hP.ext hS.ext)) rfl rfl ?_
          rintro _ w295 ⟨rfl, hE⟩
          have hS := hS.step hE
          refine wpl_end ?_
          exact ⟨rfl, hE.of_no, rfl⟩
        · -- op 84
          intro jnk vals lo hi w296 hE0 hd
          have hS := hS.step hE0
          refine r_pick_t rfl (by conv => lhs; whnf) rfl rfl ?_
          refine wpl_end ?_
          exact ⟨rfl, Ext.refl _ _, rfl⟩
      · intro φ hφ v lo hi S w1 w2 hEa hEb hSb2
        rcases hφ with hφ | ⟨j, hφ⟩
        · simp at hφ
          subst hφ
          all_goals first | exact mk_stays hEa hEb hSb2 | exact row_stays hEa hEb hSb2 | exact rown_stays hEa hEb hSb2
        · simp at hφ
      intro jnk vals lo hi w297 hE0 hsat hdj hbd
      have hS := hS.step hE0
      obtain ⟨r28, hv28, hl28, hh28, hr28⟩ := hsat 28 (by decide) rfl
      rw [vset_eq hv28]
      refine r_assign (by conv => lhs; whnf) rfl rfl ?_
      refine wpl_nil ?_
      refine thn ?_
      refine ret1 (fun _ _ _ => rfl) (by conv => lhs; whnf) ?_
      exact ⟨rfl, hB0.trans hS.ext⟩
end Go.Proofs.YtofpabocpcfbfaaDoor

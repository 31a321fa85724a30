/- Plain laws of the layer of hair. Conditions: none. -/
import Derived.Test.YtofpabocpcfbfaaDoorMD
set_option linter.unusedSimpArgs false
set_option linter.unusedVariables false

/- Plain laws of what must be bought, of a hank more and of a step more. Conditions: none. -/
namespace Go.Proofs.YtofpabocpcfbfaaDoor
namespace K
open Go
/-! ### Books that are valid -/
theorem valid_iff {b : HBook} : b.valid = true ↔ (b.hanks.length ≤ 4 ∧ b.horses.length ≤ 3 ∧ (0 ≤ b.dark ∧ b.dark ≤ 4) ∧ (0 ≤ b.near ∧ b.near ≤ 3) ∧ (0 ≤ b.mat ∧ b.mat ≤ 3)) ∧ (∀ h ∈ b.hanks, hankOk h = true) ∧ ∀ x ∈ b.horses, horseOk x = true := by
  unfold HBook.valid headOk
  simp only [Bool.and_eq_true, decide_eq_true_eq, List.all_eq_true]
  constructor
  · rintro ⟨⟨⟨⟨⟨⟨h1, h2⟩, h3⟩, h4⟩, h5⟩, h6⟩, h7⟩
    exact ⟨⟨h1, h2, h3, h4, h5⟩, h6, h7⟩
  · rintro ⟨⟨h1, h2, h3, h4, h5⟩, h6, h7⟩
    exact ⟨⟨⟨⟨⟨⟨h1, h2⟩, h3⟩, h4⟩, h5⟩, h6⟩, h7⟩
theorem restTo_mem {hs : List Horse} {set : Nat} {x : Horse} (h : x ∈ restTo hs set hs.length) : x ∈ hs := by
  obtain ⟨i, hi, rfl⟩ := List.mem_map.1 h
  exact getD_mem (List.mem_range.1 (List.mem_filter.1 hi).1)
theorem HBook.rest_valid {b : HBook} (hv : b.valid = true) (set : Nat) : (b.rest set).valid = true := by
  obtain ⟨⟨h1, h2, h3⟩, h4, h5⟩ := valid_iff.1 hv
  exact valid_iff.2 ⟨⟨h1, Nat.le_trans restTo_len h2, h3⟩, h4, fun x hx => h5 x (restTo_mem hx)⟩
theorem HBook.add_valid {b : HBook} (hv : b.valid = true) (h3 : b.hanks.length ≤ 3) {oz s : Int} (ho : 1 ≤ oz ∧ oz ≤ 60) (hs : 0 ≤ s ∧ s ≤ 20) : (b.add oz s).valid = true := by
  obtain ⟨⟨h1, h2⟩, h4, h5⟩ := valid_iff.1 hv
  refine valid_iff.2 ⟨⟨by simp; omega, h2⟩, fun x hx => ?_, h5⟩
  rcases List.mem_append.1 hx with hx | hx
  · exact h4 x hx
  · cases List.mem_singleton.1 hx
    unfold hankOk addHank
    simp only [Bool.and_eq_true, decide_eq_true_eq]
    omega
/-! ### The least of a list -/
theorem fold_min {α : Type} (f : α → Int) : ∀ (l : List α) (z : Int), l.foldl (fun n x => min n (f x)) z ≤ z ∧ (∀ x ∈ l, l.foldl (fun n x => min n (f x)) z ≤ f x) ∧ (l.foldl (fun n x => min n (f x)) z = z ∨ ∃ x ∈ l, l.foldl (fun n x => min n (f x)) z = f x)
  | [], z => ⟨Int.le_refl _, (fun x hx => by cases hx), .inl rfl⟩
  | y :: l, z => by
    obtain ⟨h1, h2, h3⟩ := fold_min f l (min z (f y))
    rw [List.foldl_cons]
    refine ⟨by omega, fun x hx => ?_, ?_⟩
    · rcases List.mem_cons.1 hx with rfl | hx
      · omega
      · exact h2 x hx
    · rcases h3 with h3 | ⟨x, hx, h3⟩
      · by_cases e : z ≤ f y
        · exact .inl (by omega)
        · exact .inr ⟨y, by simp, by omega⟩
      · exact .inr ⟨x, by simp [hx], h3⟩
/-! ### A hank more -/
theorem getD_add {hs : List Hank} {h : Hank} {k : Nat} : (hs ++ [h]).getD k Hank0 = if k < hs.length then hs.getD k Hank0 else if k = hs.length then h else Hank0 := by
  rw [List.getD_eq_getElem?_getD, List.getD_eq_getElem?_getD, List.getElem?_append]
  split
  · rfl
  · split
    · rename_i h1 h2
      subst h2
      simp
    · rw [List.getElem?_eq_none (by simp; omega)]
      rfl
theorem plus_add {b : HBook} {s : Int} : b.plus s = b.add 60 s := rfl
theorem HBook.add_good {b : HBook} (g : GoodB b) (h4 : b.hanks.length ≤ 4) {oz s : Int} (ho : 1 ≤ oz ∧ oz ≤ 60) (hs : 0 ≤ s ∧ s ≤ 20) : GoodB (b.add oz s) :=
  ⟨by simp; omega, g.l2, g.dark, g.near, g.mat, fun h hh => by
    rcases List.mem_append.1 hh with hh | hh
    · exact g.hank h hh
    · cases List.mem_singleton.1 hh
      simp only [addHank]
      omega, g.horse⟩
theorem hank_nat {b : HBook} {k : Nat} : b.hank (k : Int) = b.hanks.getD k Hank0 := rfl
theorem hank_int {b : HBook} {k : Int} (h : 0 ≤ k) : b.hank k = b.hanks.getD k.toNat Hank0 := rfl
/-- What surely matches hangs on the shades alone. -/
theorem sure_shade {b c : HBook} {n mh th : Int} (hx : c.horses = b.horses) (hd : c.dark = b.dark) (hn : c.near = b.near) (hm : c.mat = b.mat) (h1 : (c.hank mh).s = (b.hank mh).s) (h2 : (c.hank th).s = (b.hank th).s) (h : b.sure n mh th = true) : c.sure n mh th = true :=
  sure_narrow (by unfold HBook.horse; rw [hx]) (by omega) hn hm Iff.rfl (by rw [h1]; omega) (by rw [h2]; omega) h
/-- Served with a hank of so many ounces just if a plan with one of sixty cuts no more of it. -/
theorem HBook.served_add {b : HBook} (g : GoodB b) (h4 : b.hanks.length ≤ 4) {x s : Int} (hx : 1 ≤ x ∧ x ≤ 60) (hs : 0 ≤ s ∧ s ≤ 20) : (b.add x s).served = true ↔ ∃ p, (b.plus s).WorksAt false p ∧ ((b.plus s).cutOf p).getD b.hanks.length 0 ≤ x := by
  have gx := HBook.add_good g h4 hx hs
  have gp := b.plus_good g h4 hs
  have hsh : ∀ {y z : Int} {k : Int}, ((b.add y s).hank k).s = ((b.add z s).hank k).s := by
    intro y z k
    unfold HBook.hank
    rw [getD_add, getD_add]
    split
    · rfl
    · split <;> rfl
  constructor
  · intro h
    obtain ⟨p, hp⟩ := (HBook.served_iff gx).1 h
    have st : Stands (b.add x s) (b.plus s) false false (fun k => k) := ⟨rfl, fun k hk => by simpa using hk, fun j k _ _ e => e, fun k hk => by
        show ((b.hanks ++ [addHank x s]).getD k Hank0).at false ≤ ((b.hanks ++ [addHank 60 s]).getD k Hank0).at false
        rw [getD_add, getD_add]
        split
        · exact Int.le_refl _
        · split
          · show x ≤ 60; omega
          · exact Int.le_refl _, fun n j k _ _ _ h => sure_shade (b := b.add x s) (c := b.plus s) rfl rfl rfl rfl (hsh (y := 60) (z := x)) (hsh (y := 60) (z := x)) h⟩
    refine ⟨_, st.works gx gp hp, ?_⟩
    rw [st.cut gx gp hp (k := b.hanks.length) (by simp)]
    have := hp.fit b.hanks.length (by simp)
    rw [show ((b.add x s).hanks.getD b.hanks.length Hank0).at false = x by
      show ((b.hanks ++ [addHank x s]).getD b.hanks.length Hank0).at false = x
      rw [getD_add, if_neg (by omega), if_pos rfl]
      rfl] at this
    exact this
  · rintro ⟨p, hp, hc⟩
    refine (HBook.served_iff gx).2 ⟨p, ⟨?_, fun k hk => ?_, fun n hn => ?_⟩⟩
    · obtain ⟨h1, h2⟩ := HBook.isPlan_iff.1 hp.is
      exact HBook.isPlan_iff.2 ⟨h1, fun y hy => by have := h2 y hy; simpa using this⟩
    · have h1 := hp.fit k (by simpa using hk)
      have e : (b.add x s).cutOf p = (b.plus s).cutOf p := rfl
      rw [e]
      change _ ≤ ((b.hanks ++ [addHank x s]).getD k Hank0).at false
      change _ ≤ ((b.hanks ++ [addHank 60 s]).getD k Hank0).at false at h1
      rw [getD_add] at h1 ⊢
      split
      · rename_i h2; rw [if_pos h2] at h1; exact h1
      · rename_i h2
        have h3 : k = b.hanks.length := by simp at hk; omega
        rw [if_pos h3]
        subst h3
        exact hc
    · exact sure_shade (b := b.plus s) (c := b.add x s) rfl rfl rfl rfl (hsh (y := x) (z := 60)) (hsh (y := x) (z := 60)) (hp.pair n hn)
theorem addAt_len {u : List Int} {k x : Int} : (addAt u k x).length = u.length := by simp [addAt]
theorem HBook.cut_ge {b : HBook} (g : GoodB b) {p : List Int} : ∀ {n i : Nat}, i < n → n ≤ 2 * b.horses.length → 0 ≤ p.getD i 0 → p.getD i 0 < 5 → 1 ≤ (b.cutTo p n).getD (p.getD i 0).toNat 0
  | n + 1, i, hi, hn, h0, h5 => by
    rw [HBook.cutTo_succ, addAt_get, HBook.cutTo_len]
    have hp := b.part_bd g (n := n) (by omega)
    have hu := (b.cutTo_ok g (plan := p) (n := n) (by omega)).bd (p.getD i 0).toNat
    by_cases e : i = n
    · subst e
      rw [if_pos ⟨rfl, by omega⟩]
      omega
    · have := HBook.cut_ge g (p := p) (n := n) (i := i) (by omega) (by omega) h0 h5
      split <;> omega
/-- What of a bought hank is cut: nothing, just if all are served without it. -/
theorem HBook.plus_zero {b : HBook} (g : GoodB b) (h4 : b.hanks.length ≤ 4) {s : Int} (hs : 0 ≤ s ∧ s ≤ 20) {p : List Int} (hp : (b.plus s).WorksAt false p) (hc : ((b.plus s).cutOf p).getD b.hanks.length 0 ≤ 0) : b.served = true := by
  have gp := b.plus_good g h4 hs
  obtain ⟨h1, h2⟩ := HBook.isPlan_iff.1 hp.is
  have h1' : p.length = 2 * b.horses.length := h1
  have hm : ∀ y ∈ p, 0 ≤ y ∧ y < b.hanks.length := by
    intro y hy
    have h3 := h2 y hy
    have h3' : y < ((b.hanks ++ [newHank s]).length : Nat) := h3.2
    rw [List.length_append, List.length_singleton] at h3'
    refine ⟨h3.1, ?_⟩
    rcases Int.lt_or_le y b.hanks.length with h | h
    · exact h
    · obtain ⟨i, hi, e⟩ := List.mem_iff_getElem.1 hy
      have e2 : p.getD i 0 = y := by rw [List.getD_eq_getElem?_getD, List.getElem?_eq_getElem hi]; exact e
      have h5 := HBook.cut_ge gp (p := p) (n := p.length) (i := i) hi (by show p.length ≤ 2 * b.horses.length; omega) (by omega) (by omega)
      have e3 : (p.getD i 0).toNat = b.hanks.length := by omega
      rw [e3] at h5
      unfold HBook.cutOf at hc
      omega
  refine (HBook.served_iff g).2 ⟨p, ⟨HBook.isPlan_iff.2 ⟨h1', hm⟩, fun k hk => ?_, fun n hn => ?_⟩⟩
  · have h3 := hp.fit k (by show k < (b.hanks ++ [newHank s]).length; simp; omega)
    change _ ≤ ((b.hanks ++ [newHank s]).getD k Hank0).at false at h3
    rw [getD_add, if_pos hk] at h3
    exact h3
  · have h3 := hp.pair n hn
    have a1 := hm _ (getD_mem (d := 0) (k := 2 * n) (l := p) (by omega))
    have a2 := hm _ (getD_mem (d := 0) (k := 2 * n + 1) (l := p) (by omega))
    refine sure_shade (b := b.plus s) (c := b) rfl rfl rfl rfl ?_ ?_ h3
    · show (b.hanks.getD _ Hank0).s = ((b.hanks ++ [newHank s]).getD _ Hank0).s
      rw [getD_add, if_pos (by omega)]
    · show (b.hanks.getD _ Hank0).s = ((b.hanks ++ [newHank s]).getD _ Hank0).s
      rw [getD_add, if_pos (by omega)]
theorem HBook.buyN_le {b : HBook} (g : GoodB b) (h4 : b.hanks.length ≤ 4) {s : Int} (hs : 0 ≤ s ∧ s ≤ 20) {p : List Int} (hp : (b.plus s).WorksAt false p) : b.buyN s ≤ ((b.plus s).cutOf p).getD b.hanks.length 0 :=
  (fold_min (fun x : List Int × List Int => x.2.getD b.hanks.length 0) ((b.plus s).plans false) 61).2.1 (p, (b.plus s).cutOf p) ((HBook.plans_iff (b.plus_good g h4 hs)).2 ⟨hp, rfl⟩)
theorem HBook.buyN_at {b : HBook} (g : GoodB b) (h4 : b.hanks.length ≤ 4) {s : Int} (hs : 0 ≤ s ∧ s ≤ 20) : b.buyN s = 61 ∨ ∃ p, (b.plus s).WorksAt false p ∧ ((b.plus s).cutOf p).getD b.hanks.length 0 = b.buyN s := by
  rcases (fold_min (fun x : List Int × List Int => x.2.getD b.hanks.length 0) ((b.plus s).plans false) 61).2.2 with h | ⟨x, hx, h⟩
  · exact .inl h
  · obtain ⟨h1, h2⟩ := (HBook.plans_iff (b.plus_good g h4 hs)).1 hx
    exact .inr ⟨x.1, h1, by rw [← h2]; exact h.symm⟩
/-- What must be bought: nothing just if all are served; with so much they are, with less they are not; if nothing is enough sixty ounces are not. -/
theorem HBook.buy_law {b : HBook} (hv : b.valid = true) {s : Int} (hs : 0 ≤ s ∧ s ≤ 20) :
    (b.served = true → b.buyE s = 0 ∧ b.buyV s = 0) ∧
    (b.served = false → (b.buyE s = 4 ∧ b.buyV s = 0 ∧ (b.add 60 s).served = false) ∨
      (b.buyE s = 0 ∧ (1 ≤ b.buyV s ∧ b.buyV s ≤ 60) ∧ (b.add (b.buyV s) s).served = true ∧ ∀ x, 1 ≤ x → x < b.buyV s → (b.add x s).served = false)) := by
  obtain ⟨g, h4⟩ := GoodB.of_valid hv
  have hsb : shadeB s = true := by unfold shadeB; simp only [Bool.and_eq_true, decide_eq_true_eq]; omega
  have ha : b.buyA s = 0 := by unfold HBook.buyA HBook.ask; rw [hv, hsb]; rfl
  constructor
  · intro h
    unfold HBook.buyE HBook.buyV
    rw [ha, h]
    exact ⟨rfl, rfl⟩
  · intro h
    by_cases hn : 60 < b.buyN s
    · refine .inl ⟨?_, ?_, ?_⟩
      · unfold HBook.buyE; rw [ha, h, decide_eq_true hn]; rfl
      · unfold HBook.buyV; rw [ha, h, decide_eq_true hn]; rfl
      · cases hc : (b.add 60 s).served with
        | false => rfl
        | true =>
          obtain ⟨p, hp, hc2⟩ := (HBook.served_add g h4 (x := 60) (by omega) hs).1 hc
          have := HBook.buyN_le g h4 hs hp
          omega
    · have e1 : b.buyE s = 0 := by unfold HBook.buyE; rw [ha, h, decide_eq_false hn]; rfl
      have e2 : b.buyV s = b.buyN s := by unfold HBook.buyV; rw [ha, h, decide_eq_false hn]; rfl
      rcases HBook.buyN_at g h4 hs with h5 | ⟨p, hp, h5⟩
      · omega
      · have h1 : 1 ≤ b.buyN s := by
          rcases Int.lt_or_le 0 (b.buyN s) with h6 | h6
          · omega
          · rw [HBook.plus_zero g h4 hs hp (by omega)] at h
            cases h
        refine .inr ⟨e1, by omega, ?_, fun x hx hxn => ?_⟩
        · rw [e2]
          exact (HBook.served_add g h4 (by omega) hs).2 ⟨p, hp, by omega⟩
        · cases hc : (b.add x s).served with
          | false => rfl
          | true =>
            obtain ⟨q, hq, hc2⟩ := (HBook.served_add g h4 (x := x) (by omega) hs).1 hc
            have := HBook.buyN_le g h4 hs hq
            omega
end K
end Go.Proofs.YtofpabocpcfbfaaDoor

/- Plain laws of a book with a hank more, or a step more of dye; what can perhaps be. Conditions: none. -/
namespace Go.Proofs.YtofpabocpcfbfaaDoor
namespace K
open Go
section
variable {P : Program} {ro : Option Nat} {N : Nat} {ops : Array Oper} {Q : Post} {f : FV} {ds : List Deferred} {w : World} {rest : List Oper}
variable {d : Nat} {ty : TypeId} {pos : String} {af : Array Edge} {g : Option (Nat × Bool)} {t : TypeId}
theorem r_notv {x : Operand} {b v : Bool} (hx : ev f x = .bool b) (hv : (!b) = v) (hw : Wanted ops f g = true) (hd : Nat.blt d N = true) (h : WPL P ro N ops Q rest (upd f d (.bool v)) ds w) :
    WPL P ro N ops Q (⟨some d, .unOp .not t x, ty, pos, af, g⟩ :: rest) f ds w := r_not hx hw hd (by subst hv; exact h)
theorem r_eqlpv {x y : Operand} {k : IntKind} {a b : Int} {v : Bool} {yt : TypeId} (hx : ev f x = .int k a) (hy : ev f y = .int k b) (hv : decide (a = b) = v) (hw : Wanted ops f g = true) (hd : Nat.blt d N = true)
    (h : WPL P ro N ops Q rest (upd f d (.bool v)) ds w) : WPL P ro N ops Q (⟨some d, .binOp .eql t x y yt, ty, pos, af, g⟩ :: rest) f ds w :=
  r_eql hx hy hw hd (by subst hv; exact h)
end
/-- A book with a hank more, that a call of a region has made; its hanks are in new memory. -/
def AddA (n1 : Nat) (A2 : Option Addr) (n2 c2 : Nat) (dk nr mt : Int) (cs : List Value) (v : Value) (lo hi : Nat) (w : World) : Prop :=
  ∃ a c, v = .agg #[.slice a (n1 + 1) c, .slice A2 n2 c2, .int .i64 dk, .int .i64 nr, .int .i64 mt] ∧ n1 + 1 ≤ c ∧ (∀ z, a = some ⟨z, 0, none⟩ → lo ≤ z ∧ z < hi) ∧ (row 42 4 a (n1 + 1) c cs).ok w
theorem adda_stays {n1 : Nat} {A2 : Option Addr} {n2 c2 : Nat} {dk nr mt : Int} {cs : List Value} {S : Nat → Prop} {v : Value} {lo hi : Nat} {w w1 w2 : World} (_ : Ext no w w1) (x : Ext S w1 w2) (hs : ∀ b, S b → (b < lo ∨ hi ≤ b) ∧ w.heap.size ≤ b) (h : AddA n1 A2 n2 c2 dk nr mt cs v lo hi w1) : AddA n1 A2 n2 c2 dk nr mt cs v lo hi w2 := by
  obtain ⟨a, c, h1, h4, h2, h3⟩ := h
  refine ⟨a, c, h1, h4, h2, (row 42 4 a (n1 + 1) c cs).loc w1 w2 (fun k hk => ?_) h3⟩
  have hk' : a = some ⟨k, 0, none⟩ := hk
  subst hk'
  exact x.block k (row_lt h3) (fun y => by have := (hs k y).1; have := h2 k rfl; omega)
theorem St.add2 {B : Base} {w w' : World} {L : List Item} (hS : St B w L) (e : Ext no w w') {x y : Item} {l h l' h' : Nat} (hx : x.ok w') (hy : y.ok w') (hb : w.heap.size ≤ l ∧ l ≤ h ∧ h ≤ w'.heap.size) (hb' : w.heap.size ≤ l' ∧ l' ≤ h' ∧ h' ≤ w'.heap.size) (hd : h ≤ l' ∨ h' ≤ l) (fx : ∀ k, x.fp k → l ≤ k ∧ k < h) (fy : ∀ k, y.fp k → l' ≤ k ∧ k < h') : St B w' (L ++ [x, y]) :=
  hS.adds e _ (fun z hz => by
    rcases List.mem_cons.1 hz with rfl | hz
    · exact ⟨hx, fun k hk => by have := fx k hk; omega⟩
    · cases List.mem_singleton.1 hz
      exact ⟨hy, fun k hk => by have := fy k hk; omega⟩) (List.pairwise_cons.2 ⟨fun z hz k h1 h2 => by
        cases List.mem_singleton.1 hz
        have := fx k h1
        have := fy k h2
        omega, List.pairwise_singleton _ _⟩)
/-- A book with no less: the same horses, hanks more behind, as far to dye or farther. -/
structure More (b c : HBook) : Prop where
  horses : c.horses = b.horses
  len : b.hanks.length ≤ c.hanks.length
  pre : ∀ k, k < b.hanks.length → c.hanks.getD k Hank0 = b.hanks.getD k Hank0
  dark : b.dark ≤ c.dark
  near : c.near = b.near
  mat : c.mat = b.mat
theorem horse_eq {b c : HBook} (h : c.horses = b.horses) (n : Int) : c.horse n = b.horse n := by unfold HBook.horse; rw [h]
theorem More.stands {b c : HBook} (m : More b c) {up : Bool} : Stands b c up up (fun k => k) :=
  ⟨m.horses, fun k hk => Nat.lt_of_lt_of_le hk m.len, fun j k _ _ e => e, fun k hk => by rw [m.pre k hk]; exact Int.le_refl _, fun n j k _ hj hk h => by
    refine sure_narrow (by rw [horse_eq m.horses]) m.dark m.near m.mat Iff.rfl ?_ ?_ h
    · rw [hank_nat, hank_nat, m.pre j hj]; omega
    · rw [hank_nat, hank_nat, m.pre k hk]; omega⟩
theorem More.rest {b c : HBook} (m : More b c) (j : Nat) : More (b.rest j) (c.rest j) :=
  ⟨by show restTo c.horses j c.horses.length = restTo b.horses j b.horses.length; rw [m.horses], m.len, m.pre, m.dark, m.near, m.mat⟩
theorem More.lacks {b c : HBook} (m : More b c) (hv : b.valid = true) (hw : c.valid = true) : c.lacksV.length ≤ b.lacksV.length := by
  obtain ⟨⟨j, h1, h2, h3⟩, _⟩ := b.lacks_law hv
  obtain ⟨_, h4⟩ := c.lacks_law hw
  have h5 := (m.rest j).stands.served (HBook.rest_good (GoodB.of_valid hv).1 j) (HBook.rest_good (GoodB.of_valid hw).1 j) h2
  have h6 := h4 j (by rw [m.horses]; exact h1) h5
  rw [m.horses] at h6
  rw [← h3] at h6
  unfold shorterL at h6
  split at h6
  · omega
  · have := of_decide_eq_false h6; omega
theorem plus_shade {b : HBook} {s : Int} {k : Nat} : ((b.plus s).hank (k : Int)) = if k < b.hanks.length then b.hanks.getD k Hank0 else if k = b.hanks.length then newHank s else Hank0 := by
  rw [hank_nat]
  exact getD_add
theorem More.plus {b c : HBook} (m : More b c) {s : Int} : Stands (b.plus s) (c.plus s) false false (fun k => if k < b.hanks.length then k else c.hanks.length) := by
  have hl := m.len
  have hlb : ∀ {k}, k < (b.plus s).hanks.length → k ≤ b.hanks.length := fun {k} hk => by
    have h : k < (b.hanks ++ [newHank s]).length := hk
    simp at h; omega
  have key : ∀ k, k < (b.plus s).hanks.length → (c.plus s).hank ((if k < b.hanks.length then k else c.hanks.length : Nat) : Int) = (b.plus s).hank (k : Int) := by
    intro k hk
    have := hlb hk
    rw [plus_shade, plus_shade]
    by_cases h : k < b.hanks.length
    · rw [if_pos h, if_pos h, if_pos (by omega), m.pre k h]
    · rw [if_neg h, if_neg h, if_neg (by omega), if_pos rfl, if_pos (by omega)]
  refine ⟨m.horses, fun k hk => ?_, fun j k hj hk e => ?_, fun k hk => ?_, fun n j k _ hj hk h => ?_⟩
  · show _ < (c.hanks ++ [newHank s]).length
    have := hlb hk
    simp
    split <;> omega
  · have := hlb hj
    have := hlb hk
    have e' : (if j < b.hanks.length then j else c.hanks.length) = (if k < b.hanks.length then k else c.hanks.length) := e
    split at e' <;> split at e' <;> omega
  · have := key k hk
    rw [hank_nat, hank_nat] at this
    rw [this]
    exact Int.le_refl _
  · refine sure_narrow (b := b.plus s) (c := c.plus s) (congrArg Horse.shade (horse_eq (b := b.plus s) (c := c.plus s) m.horses _)) m.dark m.near m.mat ?_ (by rw [key j hj]; omega) (by rw [key k hk]; omega) h
    have := hlb hj
    have := hlb hk
    constructor
    · intro e
      have e' : (if j < b.hanks.length then j else c.hanks.length) = (if k < b.hanks.length then k else c.hanks.length) := by exact_mod_cast e
      have : j = k := by split at e' <;> split at e' <;> omega
      rw [this]
    · intro e
      have : j = k := by omega
      rw [this]
theorem More.buy {b c : HBook} (m : More b c) (hv : b.valid = true) (hw : c.valid = true) {s : Int} (hs : 0 ≤ s ∧ s ≤ 20) (h : b.buyE s = 0) : c.buyE s = 0 ∧ c.buyV s ≤ b.buyV s := by
  obtain ⟨g, h4⟩ := GoodB.of_valid hv
  obtain ⟨gc, hc4⟩ := GoodB.of_valid hw
  obtain ⟨b1, b2⟩ := HBook.buy_law hv hs
  obtain ⟨c1, c2⟩ := HBook.buy_law hw hs
  cases hsb : b.served with
  | true =>
    have h1 := b1 hsb
    have h2 := c1 (m.stands.served g gc hsb)
    exact ⟨h2.1, by omega⟩
  | false =>
    rcases b2 hsb with h1 | ⟨_, h2, h3, h5⟩
    · have := h1.1; omega
    · cases hsc : c.served with
      | true =>
        have h6 := c1 hsc
        exact ⟨h6.1, by omega⟩
      | false =>
        obtain ⟨p, hp, hpc⟩ := (HBook.served_add g h4 (by omega) hs).1 h3
        have gp := b.plus_good g h4 hs
        have gcp := c.plus_good gc hc4 hs
        have st := m.plus (s := s)
        have hq := st.works gp gcp hp
        have hcut := st.cut gp gcp hp (k := b.hanks.length) (by show _ < (b.hanks ++ [newHank s]).length; simp)
        simp only [Nat.lt_irrefl, if_false] at hcut
        have hle := HBook.buyN_le gc hc4 hs hq
        have hsv := (HBook.served_add gc hc4 (x := b.buyV s) (by omega) hs).2 ⟨_, hq, by omega⟩
        rcases c2 hsc with h6 | ⟨h6, h7, _, h8⟩
        · have h9 := (HBook.served_add gc hc4 (x := 60) (by omega) hs).2 ⟨_, hq, by omega⟩
          rw [h6.2.2] at h9
          cases h9
        · refine ⟨h6, ?_⟩
          rcases Int.lt_or_le (b.buyV s) (c.buyV s) with h9 | h9
          · rw [h8 _ (by omega) h9] at hsv
            cases hsv
          · exact h9
theorem HBook.buy_err {b : HBook} (hv : b.valid = true) {s : Int} (hs : 0 ≤ s ∧ s ≤ 20) : b.buyE s = 0 ∨ b.buyE s = 4 := by
  obtain ⟨b1, b2⟩ := HBook.buy_law hv hs
  cases hsb : b.served with
  | true => exact .inl (b1 hsb).1
  | false =>
    rcases b2 hsb with h1 | h1
    · exact .inr h1.1
    · exact .inl h1.1
/-! ### What can perhaps be -/
/-- A truth of the shades. -/
structure Truth (b : HBook) (ts : List Hank) : Prop where
  len : ts.length = b.hanks.length
  one : ∀ i, i < b.hanks.length → ∃ n : Nat, (n : Int) ≤ (b.hanks.getD i Hank0).s.hi - (b.hanks.getD i Hank0).s.lo ∧ ts.getD i Hank0 = oneHank (b.hanks.getD i Hank0) n
theorem known_iff {b : HBook} : ∀ (r : Nat) (hs : List Hank), hs.length + r = b.hanks.length → (b.knownFrom r hs = true ↔ ∃ ts : List Hank, ts.length = r ∧ (∀ i, i < r → ∃ n : Nat, (n : Int) ≤ (b.hanks.getD (hs.length + i) Hank0).s.hi - (b.hanks.getD (hs.length + i) Hank0).s.lo ∧ ts.getD i Hank0 = oneHank (b.hanks.getD (hs.length + i) Hank0) n) ∧ (b.of (hs ++ ts)).servedAt true = true)
  | 0, hs, _ => by
    unfold HBook.knownFrom
    constructor
    · intro h; exact ⟨[], rfl, fun i hi => by omega, by rw [List.append_nil]; exact h⟩
    · rintro ⟨ts, h1, _, h3⟩
      have : ts = [] := List.length_eq_zero_iff.1 h1
      subst this
      rwa [List.append_nil] at h3
  | r + 1, hs, hl => by
    unfold HBook.knownFrom
    rw [List.any_eq_true]
    constructor
    · rintro ⟨n, hn, h⟩
      rw [List.mem_range] at hn
      obtain ⟨ts, h1, h2, h3⟩ := (known_iff r (hs ++ [oneHank (b.hanks.getD hs.length Hank0) n]) (by simp; omega)).1 h
      refine ⟨oneHank (b.hanks.getD hs.length Hank0) n :: ts, by simp [h1], fun i hi => ?_, by rw [List.append_assoc] at h3; exact h3⟩
      cases i with
      | zero => exact ⟨n, by rw [Nat.add_zero]; omega, rfl⟩
      | succ i =>
        obtain ⟨n', e1, e2⟩ := h2 i (by omega)
        rw [List.length_append, List.length_singleton, show hs.length + 1 + i = hs.length + (i + 1) by omega] at e1 e2
        exact ⟨n', e1, e2⟩
    · rintro ⟨ts, h1, h2, h3⟩
      cases ts with
      | nil => simp at h1
      | cons t ts =>
        obtain ⟨n, e1, e2⟩ := h2 0 (by omega)
        rw [Nat.add_zero] at e1 e2
        have e2' : t = oneHank (b.hanks.getD hs.length Hank0) n := e2
        subst e2'
        refine ⟨n, List.mem_range.2 (by omega), ?_⟩
        refine (known_iff r _ (by simp; omega)).2 ⟨ts, by simpa using h1, fun i hi => ?_, by rw [List.append_assoc]; exact h3⟩
        obtain ⟨n', e3, e4⟩ := h2 (i + 1) (by omega)
        rw [List.length_append, List.length_singleton, show hs.length + 1 + i = hs.length + (i + 1) by omega]
        exact ⟨n', e3, e4⟩
theorem HBook.perhaps_iff {b : HBook} (hv : b.valid = true) : b.perhapsV = true ↔ ∃ ts, Truth b ts ∧ (b.of ts).servedAt true = true := by
  unfold HBook.perhapsV
  rw [hv, Bool.true_and, known_iff b.hanks.length [] (by simp)]
  constructor
  · rintro ⟨ts, h1, h2, h3⟩
    exact ⟨ts, ⟨h1, fun i hi => by have := h2 i hi; simpa using this⟩, h3⟩
  · rintro ⟨ts, ht, h3⟩
    exact ⟨ts, ht.len, fun i hi => by have := ht.one i hi; simpa using this, h3⟩
theorem Truth.good {b : HBook} (g : GoodB b) {ts : List Hank} (t : Truth b ts) : GoodB (b.of ts) :=
  g.of (by rw [t.len]; exact g.l1) (fun x hx => by
    obtain ⟨i, hi, rfl⟩ := List.mem_iff_getElem.1 hx
    obtain ⟨n, h1, h2⟩ := t.one i (by rw [← t.len]; exact hi)
    have h3 := g.hank _ (getD_mem (d := Hank0) (k := i) (l := b.hanks) (by rw [← t.len]; exact hi))
    rw [List.getD_eq_getElem?_getD, List.getElem?_eq_getElem hi, Option.getD_some] at h2
    rw [h2]
    unfold oneHank
    dsimp only [hankGood]
    omega)
/-- If all are surely served they are perhaps. -/
theorem HBook.sure_perhaps {b : HBook} (hv : b.valid = true) (hs : b.served = true) : b.perhapsV = true := by
  have g := (GoodB.of_valid hv).1
  have t : Truth b (b.hanks.map fun h => oneHank h 0) := ⟨by simp, fun i hi => by
    have h3 := g.hank _ (getD_mem (d := Hank0) (k := i) (l := b.hanks) hi)
    refine ⟨0, by omega, ?_⟩
    rw [List.getD_eq_getElem?_getD, List.getElem?_map, List.getD_eq_getElem?_getD, List.getElem?_eq_getElem hi]
    rfl⟩
  refine (HBook.perhaps_iff hv).2 ⟨_, t, ?_⟩
  obtain ⟨p, hp⟩ := (HBook.served_iff g).1 hs
  have key : ∀ k, k < b.hanks.length → (b.of (b.hanks.map fun h => oneHank h 0)).hanks.getD k Hank0 = oneHank (b.hanks.getD k Hank0) 0 := by
    intro k hk
    show (b.hanks.map fun h => oneHank h 0).getD k Hank0 = _
    rw [List.getD_eq_getElem?_getD, List.getElem?_map, List.getD_eq_getElem?_getD, List.getElem?_eq_getElem hk]
    rfl
  have st : Stands b (b.of (b.hanks.map fun h => oneHank h 0)) false true (fun k => k) := ⟨rfl, fun k hk => by simpa using hk, fun j k _ _ e => e, fun k hk => by
      rw [key k hk]
      have h3 := g.hank _ (getD_mem (d := Hank0) (k := k) (l := b.hanks) hk)
      show (b.hanks.getD k Hank0).w.lo ≤ (b.hanks.getD k Hank0).w.hi
      omega, fun n j k _ hj hk h => by
      have h3 := g.hank _ (getD_mem (d := Hank0) (k := j) (l := b.hanks) hj)
      have h4 := g.hank _ (getD_mem (d := Hank0) (k := k) (l := b.hanks) hk)
      refine sure_narrow (b := b) (c := b.of (b.hanks.map fun h => oneHank h 0)) rfl (Int.le_refl _) rfl rfl Iff.rfl ?_ ?_ h
      · rw [hank_nat, hank_nat, key j hj]; simp only [oneHank]; omega
      · rw [hank_nat, hank_nat, key k hk]; simp only [oneHank]; omega⟩
  exact (HBook.servedAt_iff (t.good g)).2 ⟨_, st.works g (t.good g) hp⟩
theorem More.perhaps {b c : HBook} (m : More b c) (hv : b.valid = true) (hw : c.valid = true) (h : b.perhapsV = true) : c.perhapsV = true := by
  have g := (GoodB.of_valid hv).1
  have gc := (GoodB.of_valid hw).1
  obtain ⟨ts, t, hs⟩ := (HBook.perhaps_iff hv).1 h
  have hl := m.len
  have key : ∀ i, i < b.hanks.length → (ts ++ (c.hanks.drop b.hanks.length).map fun h => oneHank h 0).getD i Hank0 = ts.getD i Hank0 := by
    intro i hi
    rw [List.getD_eq_getElem?_getD, List.getD_eq_getElem?_getD, List.getElem?_append_left (by rw [t.len]; exact hi)]
  have tc : Truth c (ts ++ (c.hanks.drop b.hanks.length).map fun h => oneHank h 0) := ⟨by simp [t.len]; omega, fun i hi => by
    by_cases hib : i < b.hanks.length
    · rw [key i hib, m.pre i hib]
      exact t.one i hib
    · have h3 := gc.hank _ (getD_mem (d := Hank0) (k := i) (l := c.hanks) hi)
      refine ⟨0, by omega, ?_⟩
      rw [List.getD_eq_getElem?_getD, List.getElem?_append_right (by rw [t.len]; omega), List.getElem?_map, List.getElem?_drop, t.len, show b.hanks.length + (i - b.hanks.length) = i by omega, List.getD_eq_getElem?_getD, List.getElem?_eq_getElem hi]
      rfl⟩
  refine (HBook.perhaps_iff hw).2 ⟨_, tc, ?_⟩
  obtain ⟨p, hp⟩ := (HBook.servedAt_iff (t.good g)).1 hs
  have mm : More (b.of ts) (c.of (ts ++ (c.hanks.drop b.hanks.length).map fun h => oneHank h 0)) := ⟨m.horses, by show ts.length ≤ (ts ++ _).length; simp, fun k hk => by
    have hk' : k < ts.length := hk
    exact key k (by rw [← t.len]; exact hk'), m.dark, m.near, m.mat⟩
  exact (HBook.servedAt_iff (tc.good gc)).2 ⟨_, mm.stands.works (t.good g) (tc.good gc) hp⟩
/-! ### The two books -/
abbrev HBook.darker (b : HBook) : HBook := { b with dark := min 4 (b.dark + 1) }
theorem HBook.darker_valid {b : HBook} (hv : b.valid = true) : b.darker.valid = true := by
  obtain ⟨⟨h1, h2, h3, h4⟩, h5⟩ := valid_iff.1 hv
  exact valid_iff.2 ⟨⟨h1, h2, by show 0 ≤ min 4 (b.dark + 1) ∧ min 4 (b.dark + 1) ≤ 4; omega, h4⟩, h5⟩
theorem HBook.darker_more {b : HBook} (g : GoodB b) : More b b.darker := ⟨rfl, Nat.le_refl _, fun _ _ => rfl, by have := g.dark; show b.dark ≤ min 4 (b.dark + 1); omega, rfl, rfl⟩
theorem HBook.add_more {b : HBook} {oz s : Int} : More b (b.add oz s) := ⟨rfl, by simp, fun k hk => by show (b.hanks ++ [addHank oz s]).getD k Hank0 = _; rw [getD_add, if_pos hk], Int.le_refl _, rfl, rfl⟩
theorem HBook.lacks_pos {b : HBook} (hv : b.valid = true) : b.perhapsV = true ∨ 0 < b.lacksV.length := by
  cases hs : b.served with
  | true => exact .inl (HBook.sure_perhaps hv hs)
  | false =>
    refine .inr ?_
    cases hl : b.lacksV with
    | nil => rw [(HBook.lacks_nil hv).1 hl] at hs; cases hs
    | cons x l => simp
end K
end Go.Proofs.YtofpabocpcfbfaaDoor

/- Plain laws of the steps by which parts are dyed; arrays as literals. Conditions: none. -/
namespace Go.Proofs.YtofpabocpcfbfaaDoor
namespace K
open Go
/-- An array literal of one-size elements. -/
theorem r_builda {P : Program} {ro : Option Nat} {N : Nat} {ops : Array Oper} {Q : Post} {f : FV} {ds : List Deferred} {w : World} {rest : List Oper} {d : Nat} {ty : TypeId} {pos : String} {af : Array Edge} {g : Option (Nat × Bool)} {t : TypeId}
    {parts : List (Nat × Operand)} {z : Value} {n sz : Nat} {cs : List Value} (hz : zeroIs P t z) (hp : arB P t n sz = true) (hf : fillG (fun i => some (i * sz, sz)) z.cells.toList (parts.map fun p => (p.1, (ev f p.2).cells.toList)) = some cs)
    (hw : Wanted ops f g = true) (hd : Nat.blt d N = true) (h : WPL P ro N ops Q rest (upd f d (.agg cs.toArray)) ds w) :
    WPL P ro N ops Q (⟨some d, .build t parts.toArray, ty, pos, af, g⟩ :: rest) f ds w :=
  r_val (v := .agg cs.toArray) (w' := w) (by
    have : (Instr.build t (parts.toArray.map fun (i, x) => (i, ev f x))).run P w = .ok (.agg cs.toArray) w := by
      unfold arB at hp
      cases hu : P.underlying t with
      | none => rw [hu] at hp; cases hp
      | some u =>
        rw [hu] at hp
        cases u with
        | array m e =>
          simp only [Bool.and_eq_true, beq_iff_eq] at hp
          unfold Instr.build
          rw [Sem.run_bind, run_zero hz]
          simp only [Result.andThen, Sem.run_bind, run_underlying hu, run_info hp.2, List.map_toArray]
          have h3 := fill_eq (fun i => some (i * sz, sz)) (parts.map fun p => (p.1, ev f p.2)) z.cells.toList cs (by rw [List.map_map]; exact hf)
          simp only [Array.toArray_toList] at h3
          rw [h3]
          rfl
        | _ => cases hp
    simp only [execOp, Sem.run_bind, this, Result.andThen, Sem.run_pure]) rfl hw hd h
/-- An element of a row of pairs. -/
theorem ld_pair {P : Program} {w : World} {b : Nat} {T : TypeId} {u : List Int} (h : w.heap[b]? = some (.cells (u.map iv).toArray T (0, 0))) {t : TypeId} (ht : scB P t = true) {c j : Int} (hc : 0 ≤ c ∧ 0 ≤ j ∧ c * 2 + j < u.length) : Ld P w t (((⟨b, 0, none⟩ : Addr).add (c.toNat * 2)).add (j.toNat * 1)) (.int .i64 (u.getD (c * 2 + j).toNat 0)) := by
  refine ld_sc ?_ ht
  rw [add_own, add_own, box_cell h, Nat.zero_add, Nat.mul_one, show c.toNat * 2 + j.toNat = (c * 2 + j).toNat by omega, List.getElem?_map, List.getD_eq_getElem?_getD, List.getElem?_eq_getElem (by omega)]
  rfl
theorem fs_first {β : Type} {F : Nat → Option β} {y : β} : ∀ {D : Nat}, (List.range D).findSome? F = some y → ∃ k, k < D ∧ F k = some y ∧ ∀ j, j < k → F j = none
  | 0, h => by simp at h
  | D + 1, h => by
    rw [fs_succ] at h
    cases h1 : (List.range D).findSome? F with
    | some z =>
      rw [h1] at h
      have h2 : z = y := by simpa using h
      subst h2
      obtain ⟨k, a, b, c⟩ := fs_first h1
      exact ⟨k, by omega, b, c⟩
    | none =>
      rw [h1] at h
      refine ⟨D, by omega, by simpa using h, fun j hj => ?_⟩
      cases hF : F j with
      | none => rfl
      | some z => rw [fs_hit (m := j) (y := z) ?_ hF hj] at h1; cases h1
                  exact List.findSome?_eq_none_iff.2 (fun x hx => (List.findSome?_eq_none_iff.1 (show (List.range j).findSome? F = none from by
                    cases hj2 : (List.range j).findSome? F with
                    | none => rfl
                    | some v =>
                      obtain ⟨k, a, b, _⟩ := fs_first hj2
                      have := List.findSome?_eq_none_iff.1 h1 k (List.mem_range.2 (by omega))
                      rw [b] at this; cases this)) x hx)
/-- The steps that are told are the first by which parts match. -/
theorem HBook.dy_law {b : HBook} {i mh th : Int} (h : b.sure i mh th = true) : ∃ m t : Nat, b.dyo i mh th = ((m : Int), (t : Int)) ∧ (m : Int) ≤ b.dark ∧ (t : Int) ≤ b.dark ∧ b.mt i mh m th t = true ∧ (∀ m' t' : Nat, m' < m → (t' : Int) ≤ b.dark → b.mt i mh m' th t' = false) ∧ ∀ t' : Nat, t' < t → b.mt i mh m th t' = false := by
  unfold HBook.sure at h
  obtain ⟨y, hy⟩ := Option.isSome_iff_exists.1 h
  have hy' := hy
  unfold HBook.dy at hy
  obtain ⟨m, h1, h2, h3⟩ := fs_first hy
  unfold HBook.dyM at h2
  obtain ⟨t, h4, h5, h6⟩ := fs_first h2
  have key : ∀ {m t : Nat} {z}, b.dyT i mh th m t = some z → b.mt i mh m th t = true ∧ z = ((m : Int), (t : Int)) := by
    intro m t z hz
    unfold HBook.dyT at hz
    cases hm : b.mt i mh m th t with
    | true => rw [hm] at hz; exact ⟨rfl, by simpa using hz.symm⟩
    | false => rw [hm] at hz; cases hz
  have keyn : ∀ {m t : Nat}, b.dyT i mh th m t = none → b.mt i mh m th t = false := by
    intro m t hz
    unfold HBook.dyT at hz
    cases hm : b.mt i mh m th t with
    | true => rw [hm] at hz; cases hz
    | false => rfl
  obtain ⟨h7, h8⟩ := key h5
  refine ⟨m, t, ?_, by omega, by omega, h7, fun m' t' hm ht => ?_, fun t' ht => keyn (h6 t' ht)⟩
  · unfold HBook.dyo
    rw [hy', h8]
    rfl
  · have := h3 m' hm
    unfold HBook.dyM at this
    exact keyn (List.findSome?_eq_none_iff.1 this t' (List.mem_range.2 (by omega)))
theorem HBook.dyes_law {b : HBook} (hv : b.valid = true) {i mh th : Int} (hi : 0 ≤ i ∧ i < b.horses.length) (hm : 0 ≤ mh ∧ mh < b.hanks.length) (ht : 0 ≤ th ∧ th < b.hanks.length) :
    (b.sure i mh th = false → b.dyesE i mh th = 4 ∧ b.dyesV i mh th = (0, 0)) ∧ (b.sure i mh th = true → b.dyesE i mh th = 0 ∧ b.dyesV i mh th = b.dyo i mh th) := by
  have hP : b.dyesP i mh th = true := by
    unfold HBook.dyesP
    rw [inB_iff.2 hi, inB_iff.2 hm, inB_iff.2 ht]
    rfl
  have ha : b.ask (b.dyesP i mh th) = 0 := by unfold HBook.ask; rw [hv, hP]; rfl
  constructor
  · intro h
    have e : b.dyesE i mh th = 4 := by unfold HBook.dyesE; rw [ha, h]; rfl
    exact ⟨e, by unfold HBook.dyesV; rw [e]; rfl⟩
  · intro h
    have e : b.dyesE i mh th = 0 := by unfold HBook.dyesE; rw [ha, h]; rfl
    exact ⟨e, by unfold HBook.dyesV; rw [e]; rfl⟩
/-! ### Both parts of one hank -/
/-- Near to what is wanted, by so many steps. -/
def HBook.okD (b : HBook) (i h d : Int) : Bool := (decide (-b.near ≤ (b.hank h).s.lo + d - (b.horse i).shade) && decide ((b.hank h).s.lo + d - (b.horse i).shade ≤ b.near)) && (decide (-b.near ≤ (b.hank h).s.hi + d - (b.horse i).shade) && decide ((b.hank h).s.hi + d - (b.horse i).shade ≤ b.near))
/-- The least steps among the k greatest numbers of them; -1: there are none. -/
def HBook.firstF (b : HBook) (i h : Int) : Nat → Int
  | 0 => -1
  | k + 1 => bif b.okD i h (b.dark - k) then b.dark - k else HBook.firstF b i h k
theorem HBook.firstF_law {b : HBook} {i h : Int} : ∀ (k : Nat), (k : Int) ≤ b.dark + 1 → (b.firstF i h k = -1 ∧ ∀ d, b.dark - k < d → d ≤ b.dark → b.okD i h d = false) ∨ (b.dark - k < b.firstF i h k ∧ b.firstF i h k ≤ b.dark ∧ b.okD i h (b.firstF i h k) = true ∧ ∀ d, b.dark - k < d → d < b.firstF i h k → b.okD i h d = false)
  | 0, _ => .inl ⟨rfl, fun d h1 h2 => by omega⟩
  | k + 1, hk => by
    unfold HBook.firstF
    cases ho : b.okD i h (b.dark - k) with
    | true =>
      rw [cond_true]
      exact .inr ⟨by omega, by omega, ho, fun d h1 h2 => by omega⟩
    | false =>
      rw [cond_false]
      rcases HBook.firstF_law (b := b) (i := i) (h := h) k (by omega) with ⟨h1, h2⟩ | ⟨h1, h2, h3, h4⟩
      · refine .inl ⟨h1, fun d h5 h6 => ?_⟩
        by_cases e : d = b.dark - k
        · rw [e]; exact ho
        · exact h2 d (by omega) h6
      · refine .inr ⟨by omega, h2, h3, fun d h5 h6 => ?_⟩
        by_cases e : d = b.dark - k
        · rw [e]; exact ho
        · exact h4 d (by omega) h6
theorem HBook.okD_iff {b : HBook} {i h d : Int} : b.okD i h d = true ↔ (-b.near ≤ (b.hank h).s.lo + d - (b.horse i).shade ∧ (b.hank h).s.lo + d - (b.horse i).shade ≤ b.near) ∧ -b.near ≤ (b.hank h).s.hi + d - (b.horse i).shade ∧ (b.hank h).s.hi + d - (b.horse i).shade ≤ b.near := by
  unfold HBook.okD
  simp only [Bool.and_eq_true, decide_eq_true_eq]
theorem HBook.same_law {b : HBook} (hv : b.valid = true) {i h : Int} (hi : 0 ≤ i ∧ i < b.horses.length) (hh : 0 ≤ h ∧ h < b.hanks.length) :
    (b.firstF i h (b.dark + 1).toNat < 0 ∧ b.dyesE i h h = 4 ∧ b.dyesV i h h = (0, 0)) ∨ ((0 ≤ b.firstF i h (b.dark + 1).toNat ∧ b.firstF i h (b.dark + 1).toNat ≤ b.dark) ∧ b.dyesE i h h = 0 ∧ b.dyesV i h h = (b.firstF i h (b.dark + 1).toNat, b.firstF i h (b.dark + 1).toNat)) := by
  have g := (GoodB.of_valid hv).1
  have hq := g.hankAt hh
  have hdk := g.dark
  obtain ⟨l1, l2⟩ := HBook.dyes_law hv hi hh hh
  have hmt : ∀ m t : Int, b.mt i h m h t = true → b.okD i h m = true ∧ b.okD i h t = true := by
    intro m t hm
    obtain ⟨a1, _⟩ := HBook.mt_iff.1 hm
    exact ⟨HBook.okD_iff.2 (by omega), HBook.okD_iff.2 (by omega)⟩
  have hmd : ∀ d : Int, b.okD i h d = true → b.mt i h d h d = true := by
    intro d hd
    have a1 := HBook.okD_iff.1 hd
    exact HBook.mt_iff.2 ⟨by omega, fun _ => .inl rfl, fun e => absurd rfl e⟩
  rcases HBook.firstF_law (b := b) (i := i) (h := h) (b.dark + 1).toNat (by omega) with ⟨h1, h2⟩ | ⟨h1, h2, h3, h4⟩
  · refine .inl ⟨by omega, l1 ?_⟩
    cases hs : b.sure i h h with
    | false => rfl
    | true =>
      obtain ⟨m, t, k1, k2, k3⟩ := HBook.sure_iff.1 hs
      have := (hmt m t k3).1
      rw [h2 m (by omega) k1] at this
      cases this
  · obtain ⟨d, hd⟩ : ∃ d, d = b.firstF i h (b.dark + 1).toNat := ⟨_, rfl⟩
    rw [← hd] at h1 h2 h3 h4 ⊢
    have h0 : 0 ≤ d := by omega
    obtain ⟨D, rfl⟩ : ∃ D : Nat, d = (D : Int) := ⟨d.toNat, by omega⟩
    have hs : b.sure i h h = true := HBook.sure_iff.2 ⟨D, D, h2, h2, hmd D h3⟩
    obtain ⟨m, t, e, k1, k2, k3, k4, k5⟩ := HBook.dy_law hs
    obtain ⟨o1, o2⟩ := hmt m t k3
    have hm : m = D := by
      rcases Nat.lt_trichotomy m D with h5 | h5 | h5
      · rw [h4 m (by omega) (by omega)] at o1; cases o1
      · exact h5
      · have := hmd D h3
        rw [k4 D D h5 h2] at this; cases this
    subst hm
    have ht : t = m := by
      rcases Nat.lt_trichotomy t m with h5 | h5 | h5
      · rw [h4 t (by omega) (by omega)] at o2; cases o2
      · exact h5
      · have := hmd m h3
        rw [k5 m h5] at this; cases this
    subst ht
    refine .inr ⟨by omega, (l2 hs).1, ?_⟩
    rw [(l2 hs).2, e]
/-! ### Two hanks, the one way round or the other -/
theorem HBook.mt_comm {b : HBook} {i mh ms th ts : Int} (h : b.mt i mh ms th ts = true) : b.mt i th ts mh ms = true := by
  obtain ⟨a1, a2, a3⟩ := HBook.mt_iff.1 h
  refine HBook.mt_iff.2 ⟨by omega, fun e => ?_, fun e => ?_⟩
  · have := a2 e.symm; omega
  · have := a3 (fun x => e x.symm); omega
theorem HBook.sure_comm {b : HBook} {i mh th : Int} (h : b.sure i mh th = true) : b.sure i th mh = true := by
  obtain ⟨m, t, h1, h2, h3⟩ := HBook.sure_iff.1 h
  exact HBook.sure_iff.2 ⟨t, m, h2, h1, HBook.mt_comm h3⟩
theorem HBook.either_law {b : HBook} (hv : b.valid = true) {i h k : Int} (hi : 0 ≤ i ∧ i < b.horses.length) (hh : 0 ≤ h ∧ h < b.hanks.length) (hk : 0 ≤ k ∧ k < b.hanks.length) (hne : h ≠ k) :
    ((b.dyesE i h k = 4 ∧ b.dyesV i h k = (0, 0)) ∧ b.dyesE i k h = 4 ∧ b.dyesV i k h = (0, 0)) ∨ ∃ x y p q : Int, (b.dyesE i h k = 0 ∧ b.dyesV i h k = (x, y)) ∧ (b.dyesE i k h = 0 ∧ b.dyesV i k h = (p, q)) ∧ (0 ≤ x ∧ x ≤ b.dark) ∧ (0 ≤ y ∧ y ≤ b.dark) ∧ x ≤ q ∧ p ≤ y ∧
      ((b.hank h).s.hi + x - (b.horse i).shade ≤ b.near ∧ (b.horse i).shade - ((b.hank h).s.lo + x) ≤ b.near ∧ (b.hank k).s.hi + y - (b.horse i).shade ≤ b.near ∧ (b.horse i).shade - ((b.hank k).s.lo + y) ≤ b.near) ∧ (b.hank h).s.hi + x - ((b.hank k).s.lo + y) ≤ b.mat ∧ (b.hank k).s.hi + y - ((b.hank h).s.lo + x) ≤ b.mat := by
  obtain ⟨l1, l2⟩ := HBook.dyes_law hv hi hh hk
  obtain ⟨r1, r2⟩ := HBook.dyes_law hv hi hk hh
  cases hs : b.sure i h k with
  | false =>
    have hs2 : b.sure i k h = false := by
      cases h2 : b.sure i k h with
      | false => rfl
      | true => rw [HBook.sure_comm h2] at hs; cases hs
    exact .inl ⟨l1 hs, r1 hs2⟩
  | true =>
    have hs2 := HBook.sure_comm hs
    obtain ⟨m, t, e, k1, k2, k3, k4, k5⟩ := HBook.dy_law hs
    obtain ⟨m', t', e', j1, j2, j3, j4, j5⟩ := HBook.dy_law hs2
    obtain ⟨a1, _, a3⟩ := HBook.mt_iff.1 k3
    have a3' := a3 hne
    refine .inr ⟨m, t, m', t', ⟨(l2 hs).1, by rw [(l2 hs).2, e]⟩, ⟨(r2 hs2).1, by rw [(r2 hs2).2, e']⟩, by omega, by omega, ?_, ?_, a1, a3'⟩
    · rcases Nat.lt_or_ge t' m with h5 | h5
      · have := HBook.mt_comm j3
        rw [k4 t' m' h5 j1] at this; cases this
      · omega
    · rcases Nat.lt_or_ge t m' with h5 | h5
      · have := HBook.mt_comm k3
        rw [j4 t m h5 k1] at this; cases this
      · omega
/-- The ends of two shades. -/
abbrev endsL (s t : Sp) : List Int := [s.lo, t.lo, s.lo, t.hi, s.hi, t.lo, s.hi, t.hi]
theorem ends_bd {s t : Sp} (hs : s.lo ≤ s.hi) (ht : t.lo ≤ t.hi) {c : Nat} (hc : c < 4) : (s.lo ≤ (endsL s t).getD ((c : Int) * 2 + 0).toNat 0 ∧ (endsL s t).getD ((c : Int) * 2 + 0).toNat 0 ≤ s.hi) ∧ t.lo ≤ (endsL s t).getD ((c : Int) * 2 + 1).toNat 0 ∧ (endsL s t).getD ((c : Int) * 2 + 1).toNat 0 ≤ t.hi := by
  match c, hc with
  | 0, _ => exact ⟨⟨Int.le_refl _, hs⟩, Int.le_refl _, ht⟩
  | 1, _ => exact ⟨⟨Int.le_refl _, hs⟩, ht, Int.le_refl _⟩
  | 2, _ => exact ⟨⟨hs, Int.le_refl _⟩, Int.le_refl _, ht⟩
  | 3, _ => exact ⟨⟨hs, Int.le_refl _⟩, ht, Int.le_refl _⟩
end K
end Go.Proofs.YtofpabocpcfbfaaDoor

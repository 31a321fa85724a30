/- What is so of the closed statement, and a rule for regions whose order is open. Conditions: none. -/
import Derived.Test.YtofpabocpcfbfaaDoorMD2
set_option linter.unusedSimpArgs false
set_option linter.unusedVariables false

/- What is so of the closed statement's books. Conditions: none. -/
namespace Go.Proofs.YtofpabocpcfbfaaDoor
namespace K
open Go
theorem St.fresh {B : Base} {w : World} {L : List Item} (_ : St B w L) : St (bs w) w [] := St.nil w
theorem rdrow_nil {α : Type} {enc : α → List Value} {sz : Nat} {w : World} : RdRow enc sz w none 0 [] := ⟨rfl, by omega, fun i x hi => by cases hi⟩
theorem bad_ask {b : HBook} (h : b.valid = false) (p : Bool) : b.ask p = 60 := by unfold HBook.ask; rw [h]; rfl
theorem bad_dyes {b : HBook} (h : b.valid = false) (i mh th : Int) : b.dyesE i mh th = 60 := by unfold HBook.dyesE; rw [bad_ask h]; rfl
theorem bad_works {b : HBook} (h : b.valid = false) (p : List Int) : b.worksE p = 60 := bad_ask h _
theorem bad_left {b : HBook} (h : b.valid = false) (p : List Int) (k : Int) : b.leftE p k = 60 := bad_ask h _
theorem bad_off {b : HBook} (h : b.valid = false) (p : List Int) : b.offE p = 60 := bad_ask h _
theorem bad_best {b : HBook} (h : b.valid = false) : b.bestE = 60 := by unfold HBook.bestE; rw [h]; rfl
theorem bad_chk {b : HBook} (h : b.valid = false) : b.chk = 60 := by unfold HBook.chk; rw [h]; rfl
theorem bad_buy {b : HBook} (h : b.valid = false) (s : Int) : b.buyE s = 60 := by unfold HBook.buyE HBook.buyA; rw [bad_ask h]; rfl
theorem bad_perhaps {b : HBook} (h : b.valid = false) : b.perhapsE = 60 := bad_chk h
/-- A book in a row of books. -/
def BadAt (w : World) (p i : Nat) (b : HBook) : Prop := ∃ A1 n1 c1 A2 n2 c2, Cells w ((⟨p, 0, none⟩ : Addr).add (i * 5)) [.slice A1 n1 c1, .slice A2 n2 c2, .int .i64 b.dark, .int .i64 b.near, .int .i64 b.mat] ∧ RdRow Hank.enc 4 w A1 n1 b.hanks ∧ RdRow Horse.enc 3 w A2 n2 b.horses ∧ n1 ≤ c1
theorem badAt_mk {w : World} {p i : Nat} {T : TypeId} {cs : List Value} {b : HBook} {A1 A2 : Option Addr} {n1 c1 n2 c2 : Nat} (h : w.heap[p]? = some (.cells cs.toArray T (0, 0))) (hc : (cs.drop (i * 5)).take 5 = [.slice A1 n1 c1, .slice A2 n2 c2, .int .i64 b.dark, .int .i64 b.near, .int .i64 b.mat]) (h1 : RdRow Hank.enc 4 w A1 n1 b.hanks) (h2 : RdRow Horse.enc 3 w A2 n2 b.horses) (hn : n1 ≤ c1) : BadAt w p i b := by
  refine ⟨A1, n1, c1, A2, n2, c2, ?_, h1, h2, hn⟩
  rw [← hc]
  have := (box_cells h 0).at (i * 5) 5
  rwa [List.drop_zero] at this
def badHanks : Nat → List Hank
  | 0 => ownHanks ++ ownHanks
  | 2 => [⟨⟨10, 15⟩, ⟨4, 5⟩⟩, ⟨⟨8, 9⟩, ⟨6, 6⟩⟩, ⟨⟨20, 22⟩, ⟨3, 3⟩⟩]
  | 3 => [⟨⟨61, 61⟩, ⟨4, 5⟩⟩, ⟨⟨8, 9⟩, ⟨6, 6⟩⟩, ⟨⟨20, 22⟩, ⟨3, 3⟩⟩]
  | 4 => [⟨⟨10, 11⟩, ⟨4, 7⟩⟩, ⟨⟨8, 9⟩, ⟨6, 6⟩⟩, ⟨⟨20, 22⟩, ⟨3, 3⟩⟩]
  | 5 => [⟨⟨10, 11⟩, ⟨21, 21⟩⟩, ⟨⟨8, 9⟩, ⟨6, 6⟩⟩, ⟨⟨20, 22⟩, ⟨3, 3⟩⟩]
  | _ => ownHanks
def badHorses : Nat → List Horse
  | 1 => ownHorses ++ ownHorses
  | 6 => [⟨0, 4, 6⟩, ⟨5, 3, 7⟩]
  | 7 => [⟨6, 4, 6⟩, ⟨5, 31, 7⟩]
  | 8 => [⟨6, 4, 6⟩, ⟨5, 3, 26⟩]
  | _ => ownHorses
def badB (i : Nat) : HBook := ⟨badHanks i, badHorses i, if i = 9 then 5 else 2, 1, if i = 10 then 4 else 1⟩
theorem badB_no : ∀ i, i < 11 → (badB i).valid = false := by decide +kernel
def emptyB : HBook := ⟨[], [], 0, 0, 0⟩
theorem k26 : ownB.dyesV 2 0 0 = (0, 0) ∧ ownB.dyesE 2 0 0 = 61 := by decide +kernel
theorem k27 : ownB.dyesV 0 3 0 = (0, 0) ∧ ownB.dyesE 0 3 0 = 61 := by decide +kernel
theorem k28 : ownB.worksV [0, 0, 1] = false ∧ ownB.worksE [0, 0, 1] = 61 := by decide +kernel
theorem k29 : ownB.worksV [0, 0, 1, 3] = false ∧ ownB.worksE [0, 0, 1, 3] = 61 := by decide +kernel
theorem k30 : ownB.leftV [0, 1, 1, 1] 0 = ⟨0, 0⟩ ∧ ownB.leftE [0, 1, 1, 1] 0 = 61 := by decide +kernel
theorem k31 : ownB.leftV [0, 0, 1, 1] 3 = ⟨0, 0⟩ ∧ ownB.leftE [0, 0, 1, 1] 3 = 61 := by decide +kernel
theorem k32 : ownB.offV [2, 2, 2, 2] = ⟨0, 0⟩ ∧ ownB.offE [2, 2, 2, 2] = 61 := by decide +kernel
theorem k33 : ownB.buyV 21 = 0 ∧ ownB.buyE 21 = 61 := by decide +kernel
theorem k34 : ownB.dyesV 1 2 2 = (0, 0) ∧ ownB.dyesE 1 2 2 = 4 := by decide +kernel
theorem k35 : poorB.bestV = [] ∧ poorB.bestE = 4 := by decide +kernel
theorem k36 : poorB.buyV 0 = 0 ∧ poorB.buyE 0 = 4 := by decide +kernel
abbrev dyesTab : List Int := [0, 0, 0, 1, 1, 0, 0, 1, 1, 0, 1, 0, 1, 2, 0]
theorem dyes_tab : ∀ i : Nat, i < 3 → ownB.dyesV (dyesTab.getD ((i : Int) * 5 + 0).toNat 0) (dyesTab.getD ((i : Int) * 5 + 1).toNat 0) (dyesTab.getD ((i : Int) * 5 + 2).toNat 0) = (dyesTab.getD ((i : Int) * 5 + 3).toNat 0, dyesTab.getD ((i : Int) * 5 + 4).toNat 0) ∧ ownB.dyesE (dyesTab.getD ((i : Int) * 5 + 0).toNat 0) (dyesTab.getD ((i : Int) * 5 + 1).toNat 0) (dyesTab.getD ((i : Int) * 5 + 2).toNat 0) = 0 := by decide +kernel
theorem ld_tab {P : Program} {w : World} {b : Nat} {T : TypeId} {u : List Int} (h : w.heap[b]? = some (.cells (u.map iv).toArray T (0, 0))) {t : TypeId} (ht : scB P t = true) {c j : Int} (hc : 0 ≤ c ∧ 0 ≤ j ∧ c * 5 + j < u.length) : Ld P w t (((⟨b, 0, none⟩ : Addr).add (c.toNat * 5)).add (j.toNat * 1)) (.int .i64 (u.getD (c * 5 + j).toNat 0)) := by
  refine ld_sc ?_ ht
  rw [add_own, add_own, box_cell h, Nat.zero_add, Nat.mul_one, show c.toNat * 5 + j.toNat = (c * 5 + j).toNat by omega, List.getElem?_map, List.getD_eq_getElem?_getD, List.getElem?_eq_getElem (by omega)]
  rfl
theorem k46 : ownB.worksV [0, 0, 1, 1] = true ∧ ownB.worksE [0, 0, 1, 1] = 0 := by decide +kernel
theorem k47 : ownB.worksV [0, 1, 1, 1] = false ∧ ownB.worksE [0, 1, 1, 1] = 0 := by decide +kernel
theorem k48 : ownB.offV [0, 0, 1, 1] = ⟨0, 2⟩ ∧ ownB.offE [0, 0, 1, 1] = 0 := by decide +kernel
theorem k49 : ownB.bestV = [0, 0, 1, 1] ∧ ownB.bestE = 0 := by decide +kernel
theorem k50 : ownB.lacksV = [] ∧ ownB.chk = 0 := by decide +kernel
theorem k51 : ownB.buyV 9 = 0 ∧ ownB.buyE 9 = 0 := by decide +kernel
theorem k52 : ownB.perhapsV = true ∧ ownB.perhapsE = 0 := by decide +kernel
theorem k53 : emptyB.bestV = [] ∧ emptyB.bestE = 0 := by decide +kernel
theorem k54 : emptyB.offV [] = ⟨0, 0⟩ ∧ emptyB.offE [] = 0 := by decide +kernel
theorem k55 : emptyB.perhapsV = true ∧ emptyB.perhapsE = 0 := by decide +kernel
/-- A book in new memory that a call of a region has made. -/
def NBA (hs : List Hank) (n : Nat) (v : Value) (lo hi : Nat) (w : World) : Prop :=
  ∃ p1 p2, v = .agg #[.slice (some ⟨p1, 0, none⟩) n 3, .slice (some ⟨p2, 0, none⟩) 2 2, .int .i64 2, .int .i64 1, .int .i64 1] ∧ w.heap[p1]? = some (.cells (hs.flatMap Hank.enc).toArray 42 (0, 0)) ∧ w.heap[p2]? = some (.cells (ownHorses.flatMap Horse.enc).toArray 65 (0, 0)) ∧ (lo ≤ p1 ∧ p1 < hi) ∧ (lo ≤ p2 ∧ p2 < hi) ∧ p1 ≠ p2
theorem nba_stays {hs : List Hank} {n : Nat} {S : Nat → Prop} {v : Value} {lo hi : Nat} {w w1 w2 : World} (_ : Ext no w w1) (x : Ext S w1 w2) (hx : ∀ b, S b → (b < lo ∨ hi ≤ b) ∧ w.heap.size ≤ b) (h : NBA hs n v lo hi w1) : NBA hs n v lo hi w2 := by
  obtain ⟨p1, p2, h1, h2, h3, h4, h5, h6⟩ := h
  exact ⟨p1, p2, h1, x.heap h2 (fun y => by have := (hx p1 y).1; omega), x.heap h3 (fun y => by have := (hx p2 y).1; omega), h4, h5, h6⟩
theorem NBA.add {B : Base} {hs : List Hank} {w w' : World} {L : List Item} (hS : St B w L) (hE : Ext no w w') {p1 p2 l h : Nat} (hb : w.heap.size ≤ l ∧ l ≤ h ∧ h ≤ w'.heap.size) (h1 : w'.heap[p1]? = some (.cells (hs.flatMap Hank.enc).toArray 42 (0, 0))) (h2 : w'.heap[p2]? = some (.cells (ownHorses.flatMap Horse.enc).toArray 65 (0, 0))) (h3 : l ≤ p1 ∧ p1 < h) (h4 : l ≤ p2 ∧ p2 < h) (hne : p1 ≠ p2) : St B w' (L ++ [box p1 42 (hs.flatMap Hank.enc), box p2 65 (ownHorses.flatMap Horse.enc)]) :=
  NewBook.add hS hE h1 h2 (by omega) (by omega) hne
/-- A field of one cell of a struct's value. -/
def fsB1 (P : Program) (t : TypeId) (n off : Nat) : Bool := match P.underlying t with | some (.struct fs) => (match fs[n]? with | some f => (f.offset == off) && scB P f.type | none => false) | _ => false
def fsBa (P : Program) (t : TypeId) (n off m : Nat) : Bool := match P.underlying t with | some (.struct fs) => (match fs[n]? with | some f => (f.offset == off) && agB P f.type m | none => false) | _ => false
section
variable {P : Program} {ro : Option Nat} {N : Nat} {ops : Array Oper} {Q : Post} {f : FV} {ds : List Deferred} {w : World} {rest : List Oper}
variable {d : Nat} {ty : TypeId} {pos : String} {af : Array Edge} {g : Option (Nat × Bool)} {t : TypeId}
theorem r_fieldv {x : Operand} {cs : List Value} {n off : Nat} {v : Value} (hx : ev f x = .agg cs.toArray) (hf : fsB1 P t n off = true) (hk : cs[off]? = some v) (hw : Wanted ops f g = true) (hd : Nat.blt d N = true) (h : WPL P ro N ops Q rest (upd f d v) ds w) :
    WPL P ro N ops Q (⟨some d, .field t x n, ty, pos, af, g⟩ :: rest) f ds w :=
  r_val (v := v) (w' := w) (by
    have : (Instr.field t (.agg cs.toArray) n).run P w = .ok v w := by
      unfold fsB1 at hf
      cases hu : P.underlying t with
      | none => rw [hu] at hf; cases hf
      | some u =>
        rw [hu] at hf
        cases u with
        | struct fs =>
          simp only at hf
          cases hfn : fs[n]? with
          | none => rw [hfn] at hf; cases hf
          | some fl =>
            rw [hfn] at hf
            simp only [Bool.and_eq_true, beq_iff_eq] at hf
            unfold Instr.field
            rw [Sem.run_bind, run_underlying hu]
            simp only [Result.andThen, hfn]
            unfold part
            have h1 : (asAgg (.agg cs.toArray)).run P w = .ok cs.toArray w := rfl
            rw [Sem.run_bind, h1]
            simp only [Result.andThen]
            rw [Sem.run_bind, run_isAgg_sc hf.2]
            simp [Result.andThen, hf.1, hk]
        | _ => cases hf
    simp only [execOp, hx, Sem.run_bind, this, Result.andThen, Sem.run_pure]) rfl hw hd h
theorem r_fielda {x : Operand} {cs vs : List Value} {n off m : Nat} (hx : ev f x = .agg cs.toArray) (hf : fsBa P t n off m = true) (hk : (cs.drop off).take m = vs) (hw : Wanted ops f g = true) (hd : Nat.blt d N = true) (h : WPL P ro N ops Q rest (upd f d (.agg vs.toArray)) ds w) :
    WPL P ro N ops Q (⟨some d, .field t x n, ty, pos, af, g⟩ :: rest) f ds w :=
  r_val (v := .agg vs.toArray) (w' := w) (by
    have : (Instr.field t (.agg cs.toArray) n).run P w = .ok (.agg vs.toArray) w := by
      unfold fsBa at hf
      cases hu : P.underlying t with
      | none => rw [hu] at hf; cases hf
      | some u =>
        rw [hu] at hf
        cases u with
        | struct fs =>
          simp only at hf
          cases hfn : fs[n]? with
          | none => rw [hfn] at hf; cases hf
          | some fl =>
            rw [hfn] at hf
            simp only [Bool.and_eq_true, beq_iff_eq] at hf
            unfold Instr.field
            rw [Sem.run_bind, run_underlying hu]
            simp only [Result.andThen, hfn]
            unfold part
            have h1 : (asAgg (.agg cs.toArray)).run P w = .ok cs.toArray w := rfl
            rw [Sem.run_bind, h1]
            simp only [Result.andThen]
            rw [Sem.run_bind, run_isAgg_ag hf.2]
            simp only [Result.andThen, if_true]
            rw [Sem.run_bind, run_info (agB_sz hf.2)]
            simp only [Result.andThen, hf.1, Sem.run_pure]
            subst hk
            congr 2
            apply Array.ext'
            simp [List.extract_eq_take_drop]
        | _ => cases hf
    simp only [execOp, hx, Sem.run_bind, this, Result.andThen, Sem.run_pure]) rfl hw hd h
end
end K
end Go.Proofs.YtofpabocpcfbfaaDoor

/- A region whose order is open, in which nothing is turned but in its tail. Conditions: the program follows all departures (mixedOrders). -/
namespace Go.Proofs.YtofpabocpcfbfaaDoor
namespace K
open Go
section
variable {P : Program} {ro : Option Nat} {N : Nat} {Q : Post} {f : FV} {ds : List Deferred} {w : World}
theorem k_draw0 {id : Nat} {ops : List Oper} (m : Nat) (ss : List Spc) (hm : P.follows .mixedOrders = true) (hml : Nat.ble m ops.length = true) (hord : orderedB ops = true) (htl : tailB ops m = true) (hnd : nodupB (dstsOf (ops.take m)) = true) (hdN : (dstsOf (ops.take m)).all (fun d => Nat.blt d N) = true)
    (hcon : conB ops ss m = true) (hns : noSt ss = true)
    (hobl : Obls P ro N m ops Q f ds w ss 0 (ops.take m))
    (hst : ∀ φ, Spc.ex φ ∈ ss → ∀ v lo hi w1 w2, Ext no w w1 → Ext no w1 w2 → φ v lo hi w1 → φ v lo hi w2)
    (hk : ∀ jnk vals lo hi w', Ext no w w' → (∀ j, j < m → freeB ss m j j = true → sat ss vals lo hi w' j) → (∀ i j, i < m → j < m → i ≠ j → hi i ≤ lo j ∨ hi j ≤ lo i) → (∀ j, j < m → w.heap.size ≤ lo j ∧ lo j ≤ hi j ∧ hi j ≤ w'.heap.size) → WPL P ro N ops.toArray Q (ops.drop m) (mkF (hv (dstsOf (ops.take m)) jnk f) (slots ops ss vals (List.range m))) ds w') : WP P ro N (.region id ops.toArray true) Q f ds w := by
  intro n a hr
  have hnd' := nodup_get hnd
  have hready : ∀ (listed : Array Bool) (i : Nat), i ∈ Region.ready .any ops.toArray listed ↔ ∃ o, ops[i]? = some o ∧ listed.getD i true = false ∧ ∀ j ∈ depsOf o, listed.getD j false = true := by
    intro listed i
    unfold Region.ready
    simp only [List.mem_filter, List.mem_range, List.size_toArray, List.getElem?_toArray, Bool.and_eq_true, Bool.not_eq_true']
    constructor
    · rintro ⟨h1, h2, h3⟩
      refine ⟨ops[i], List.getElem?_eq_getElem h1, h2, ?_⟩
      rw [List.getElem?_eq_getElem h1] at h3
      simp only [Option.map_some, Option.getD_some] at h3
      intro j hj
      obtain ⟨e, he, hej⟩ := List.mem_filterMap.1 hj
      have := Array.all_eq_true_iff_forall_mem.1 h3 e (by simpa using he)
      split at hej
      · rename_i hb
        cases hej
        simpa [hb] using this
      · cases hej
    · rintro ⟨o, h1, h2, h3⟩
      obtain ⟨hl, he⟩ := List.getElem?_eq_some_iff.1 h1
      refine ⟨hl, h2, ?_⟩
      rw [h1]
      simp only [Option.map_some, Option.getD_some]
      refine Array.all_eq_true_iff_forall_mem.2 fun e he => ?_
      cases hb : Region.binds .any e with
      | false => rfl
      | true => exact h3 e.on (List.mem_filterMap.2 ⟨e, by simpa using he, by simp [hb]⟩)
  have hml' := Nat.le_of_ble_eq_true hml
  have hless : ∀ (i : Nat) (o : Oper), ops[i]? = some o → ∀ j ∈ depsOf o, j < i := by
    intro i o ho j hj
    obtain ⟨hi, hio⟩ := List.getElem?_eq_some_iff.1 ho
    have h1 := List.all_eq_true.1 hord (o, i) (by
      rw [List.mem_iff_getElem]
      exact ⟨i, by simpa using hi, by simp [hio]⟩)
    have h2 := List.all_eq_true.1 h1 j hj
    simpa using h2
  have hreach : ∀ (i : Nat) (o : Oper), ops[i]? = some o → m ≤ i → ∀ j, j < i → reachB ops 12 i j = true := by
    intro i o ho him j hj
    obtain ⟨hi, hio⟩ := List.getElem?_eq_some_iff.1 ho
    have h1 := List.all_eq_true.1 htl (o, i) (by
      rw [List.mem_iff_getElem]
      refine ⟨i - m, by simp; omega, ?_⟩
      simp only [List.getElem_drop, List.getElem_zipIdx, Nat.zero_add]
      have : m + (i - m) = i := by omega
      simp [this, hio])
    exact List.all_eq_true.1 h1 j (List.mem_range.2 hj)
  have htail : ∀ (L : Nat → Prop), (∀ i o, L i → ops[i]? = some o → ∀ k ∈ depsOf o, L k) → ∀ (i : Nat) (o : Oper), ops[i]? = some o → m ≤ i → (∀ k ∈ depsOf o, L k) → ∀ j, j < i → L j := fun L hL i o ho him hd j hj =>
    reach_listed hL 12 i j (hreach i o ho him j hj) (fun o' ho' => by rw [ho] at ho'; cases ho'; exact hd)
  have phase2 : ∀ (fuel k : Nat) (listed : Array Bool) (a : Act) (w : World), m ≤ k → k ≤ ops.length → listed.size = ops.length → (∀ j, j < ops.length → listed.getD j false = decide (j < k)) → ops.length - k ≤ fuel →
      wpListIn (fence ro) n P ops.toArray (lift N Q) (ops.drop k) a w → wpAnyIn (fence ro) n P .any ops.toArray (lift N Q) fuel listed a w := by
    intro fuel
    have hrd : ∀ (k : Nat) (listed : Array Bool), m ≤ k → listed.size = ops.length → (∀ j, j < ops.length → listed.getD j false = decide (j < k)) → ∀ i, i ∈ Region.ready .any ops.toArray listed ↔ i = k ∧ k < ops.length := by
      intro k listed hmk hsz hl i
      rw [hready]
      have hD : ∀ i, i < ops.length → listed.getD i true = listed.getD i false := fun i hi => by
        have : i < listed.size := by omega
        simp [Array.getD, this]
      constructor
      · rintro ⟨o, h1, h2, h3⟩
        have hi := (List.getElem?_eq_some_iff.1 h1).1
        rw [hD i hi, hl i hi] at h2
        have hki : k ≤ i := by simpa using h2
        rcases Nat.lt_or_ge k i with hlt | hge
        · have := htail (fun j => j < k) (fun i' o' hi' ho' k' hk' => by have := hless i' o' ho' k' hk'; omega) i o h1 (by omega) (fun j hj => by
            have h4 := h3 j hj
            have h5 := hless i o h1 j hj
            rw [hl j (by omega)] at h4
            simpa using h4) k hlt
          omega
        · exact ⟨by omega, by omega⟩
      · rintro ⟨rfl, hk⟩
        refine ⟨ops[i], List.getElem?_eq_getElem hk, by rw [hD i hk, hl i hk]; simp, fun j hj => ?_⟩
        have := hless i _ (List.getElem?_eq_getElem hk) j hj
        rw [hl j (by omega)]
        simpa using this
    induction fuel with
    | zero =>
      intro k listed a w hmk hkl hsz hl hf h
      have hke : k = ops.length := by omega
      refine ⟨?_, ?_⟩
      · rw [List.eq_nil_iff_forall_not_mem]
        intro i hi
        have := (hrd k listed hmk hsz hl i).1 hi
        omega
      · rw [hke, List.drop_length] at h
        exact h
    | succ fuel ih =>
      intro k listed a w hmk hkl hsz hl hf h
      refine ⟨fun hre => ?_, fun i hi => ?_⟩
      · rcases Nat.lt_or_ge k ops.length with hlt | hge
        · have := (hrd k listed hmk hsz hl k).2 ⟨rfl, hlt⟩
          rw [hre] at this
          cases this
        · rw [List.drop_of_length_le hge] at h
          exact h
      · obtain ⟨rfl, hlt⟩ := (hrd k listed hmk hsz hl i).1 hi
        rw [List.drop_eq_getElem_cons hlt] at h
        unfold wpOpIn
        have ho' : ops.toArray[i]? = some ops[i] := by simp [hlt]
        simp only [ho']
        have hnx : ∀ a' w', wpListIn (fence ro) n P ops.toArray (lift N Q) (ops.drop (i + 1)) a' w' → wpAnyIn (fence ro) n P .any ops.toArray (lift N Q) fuel (listed.setIfInBounds i true) a' w' := fun a' w' h' => by
          refine ih (i + 1) _ a' w' (by omega) (by omega) (by simpa using hsz) ?_ (by omega) h'
          intro j hj
          by_cases hji : j = i
          · subst hji
            have : j < listed.size := by omega
            simp [Array.getD_eq_getD_getElem?, this]
          · have : (listed.setIfInBounds i true).getD j false = listed.getD j false := by
              simp only [Array.getD_eq_getD_getElem?, Array.getElem?_setIfInBounds_ne (Ne.symm hji)]
            rw [this, hl j hj]
            congr 1
            simp
            omega
        unfold wpListIn at h
        cases hwd : Region.wanted ops[i] (yielded ops.toArray a.tmps) with
        | true =>
          simp only [hwd, if_true] at h ⊢
          exact Oper.wpIn_mono hnx h
        | false =>
          simp only [hwd, Bool.false_eq_true, if_false] at h ⊢
          exact ⟨h.1, hnx _ _ h.2⟩
  have hconE : ∀ i k, i < m → turns ss i = some k → k < i ∧ (∃ o, ops[i]? = some o ∧ k ∈ depsOf o ∧ o.dst = none) ∧ (∀ k', k' < m → k' ≠ i → turns ss k' ≠ some k) := by
    intro i k hi ht
    have := List.all_eq_true.1 hcon i (List.mem_range.2 hi)
    simp only [ht, Bool.and_eq_true] at this
    obtain ⟨⟨⟨h1, h2⟩, _⟩, h3⟩ := this
    refine ⟨by rwa [Nat.blt_eq] at h1, ?_, freeB_iff.1 h3⟩
    cases ho : ops[i]? with
    | none => rw [ho] at h2; cases h2
    | some o =>
      rw [ho] at h2
      simp only [Bool.and_eq_true, Option.isNone_iff_eq_none] at h2
      exact ⟨o, rfl, List.elem_iff.1 h2.1, h2.2⟩
  have key : ∀ (fuel : Nat) (listed : Array Bool) (a : Act) (w1 : World) (vals : Nat → Value) (lo hi : Nat → Nat) (F : FV), Rep N a F ds → Agree (dstsOf (ops.take m)) F f → listed.size = ops.length →
      (∀ j, listed.getD j false = true → j < m ∧ (∀ d, dstAt ops j = some d → F d = valOf ss vals j) ∧ ((∀ i, listed.getD i false = true → turns ss i ≠ some j) → sat ss vals lo hi w1 j)) → (∀ i o, listed.getD i false = true → ops[i]? = some o → ∀ k ∈ depsOf o, listed.getD k false = true) → (∀ i j, listed.getD i false = true → listed.getD j false = true → i ≠ j → hi i ≤ lo j ∨ hi j ≤ lo i) → (∀ j, listed.getD j false = true → w.heap.size ≤ lo j ∧ lo j ≤ hi j ∧ hi j ≤ w1.heap.size) → Ext no w w1 → (listed.toList.count false ≤ fuel) →
      wpAnyIn (fence ro) n P .any ops.toArray (lift N Q) fuel listed a w1 := by
    have hdone : ∀ (fuel : Nat) (listed : Array Bool) (a : Act) (w1 : World) (vals : Nat → Value) (lo hi : Nat → Nat) (F : FV), Rep N a F ds → Agree (dstsOf (ops.take m)) F f → listed.size = ops.length →
        (∀ j, listed.getD j false = true → j < m ∧ (∀ d, dstAt ops j = some d → F d = valOf ss vals j) ∧ ((∀ i, listed.getD i false = true → turns ss i ≠ some j) → sat ss vals lo hi w1 j)) → (∀ i o, listed.getD i false = true → ops[i]? = some o → ∀ k ∈ depsOf o, listed.getD k false = true) → (∀ i j, listed.getD i false = true → listed.getD j false = true → i ≠ j → hi i ≤ lo j ∨ hi j ≤ lo i) → (∀ j, listed.getD j false = true → w.heap.size ≤ lo j ∧ lo j ≤ hi j ∧ hi j ≤ w1.heap.size) → Ext no w w1 → listed.toList.count false ≤ fuel → (∀ j, j < m → listed.getD j false = true) → wpAnyIn (fence ro) n P .any ops.toArray (lift N Q) fuel listed a w1 := by
      intro fuel listed a w1 vals lo hi F hr hag hsz hin hcl hdj hbd hEw hcount hall
      have heq : AllEq F (slots ops ss vals (List.range m)) := slots_eq _ fun j hj d hd => (hin j (hall j (List.mem_range.1 hj))).2.1 d hd
      have := hk F vals lo hi w1 hEw (fun j hj hfr => (hin j (hall j hj)).2.2 (fun i hi ht => by
        by_cases e : i = j
        · have := (hconE i j (hin i hi).1 ht).1
          omega
        · exact freeB_iff.1 hfr i (hin i hi).1 e ht)) (fun i j hi hj => hdj i j (hall i hi) (hall j hj)) (fun j hj => hbd j (hall j hj))
      rw [← mkF_eq heq hag] at this
      have hl : ∀ j, j < ops.length → listed.getD j false = decide (j < m) := by
        intro j hj
        rcases Nat.lt_or_ge j m with h | h
        · rw [hall j h]; simpa using h
        · cases hb : listed.getD j false with
          | false => simp; omega
          | true => have := (hin j hb).1; omega
      refine phase2 fuel m listed a w1 (Nat.le_refl _) hml' hsz hl ?_ (this n a hr)
      have hc : listed.toList.count false = ops.length - m := by
        have h1 : listed.toList = (List.range ops.length).map (fun j => decide (j < m)) := by
          apply List.ext_getElem
          · simp [hsz]
          · intro i h1 h2
            have hi : i < listed.size := by simpa using h1
            have := hl i (by omega)
            simp only [Array.getD, hi, dif_pos] at this
            simpa using this
        rw [h1, List.count_eq_countP, List.countP_map]
        have h2 : ∀ q, q ≤ ops.length → List.countP ((fun x => x == false) ∘ fun j => decide (j < m)) (List.range q) = q - m := by
          intro q
          induction q with
          | zero => intro _; simp
          | succ q ih =>
            intro hq
            rw [List.range_succ, List.countP_append, ih (by omega)]
            simp only [List.countP_cons, List.countP_nil, Function.comp]
            by_cases h : q < m
            · simp [h]; omega
            · simp [h]; omega
        exact h2 _ (Nat.le_refl _)
      omega
    intro fuel
    induction fuel with
    | zero =>
      intro listed a w1 vals lo hi F hr hag hsz hin hcl hdj hbd hEw hcount
      refine hdone 0 listed a w1 vals lo hi F hr hag hsz hin hcl hdj hbd hEw hcount fun j hj => ?_
      cases hb : listed.getD j false with
      | true => rfl
      | false =>
        exfalso
        have hlt : j < listed.size := by omega
        have : false ∈ listed.toList := by
          simp only [Array.getD, hlt, dif_pos] at hb
          have := Array.getElem_mem hlt
          rw [show listed[j] = false from hb] at this
          simpa using this
        have := List.count_pos_iff.2 this
        omega
    | succ fuel ih =>
      intro listed a w1 vals lo hi F hr hag hsz hin hcl hdj hbd hEw hcount
      by_cases hall : ∀ j, j < m → listed.getD j false = true
      · exact hdone _ listed a w1 vals lo hi F hr hag hsz hin hcl hdj hbd hEw hcount hall
      have hsome : ∃ i o, ops[i]? = some o ∧ i < m ∧ listed.getD i true = false ∧ ∀ j ∈ depsOf o, listed.getD j false = true := by
        have hex : ∃ j, j < m ∧ listed.getD j false = false := by
          refine Classical.byContradiction fun hno => hall fun j hj => ?_
          cases hb : listed.getD j false with
          | true => rfl
          | false => exact absurd ⟨j, hj, hb⟩ hno
        have hmin : ∀ q j, j ≤ q → j < m → listed.getD j false = false → ∃ i, i < m ∧ listed.getD i false = false ∧ ∀ k, k < i → listed.getD k false = true := by
          intro q
          induction q with
          | zero => intro j hjq hj hb; exact ⟨j, hj, hb, fun k hk => by omega⟩
          | succ q ihq =>
            intro j hjq hj hb
            by_cases h : ∃ k, k < j ∧ listed.getD k false = false
            · obtain ⟨k, hk, hkb⟩ := h
              exact ihq k (by omega) (by omega) hkb
            · exact ⟨j, hj, hb, fun k hk => by
                cases hb2 : listed.getD k false with
                | true => rfl
                | false => exact absurd ⟨k, hk, hb2⟩ h⟩
        obtain ⟨j, hj, hb⟩ := hex
        obtain ⟨i, hi, hib, hlow⟩ := hmin j j (Nat.le_refl _) hj hb
        have hil : i < ops.length := by omega
        refine ⟨i, ops[i], List.getElem?_eq_getElem hil, hi, ?_, fun k hk => hlow k (hless i _ (List.getElem?_eq_getElem hil) k hk)⟩
        have : i < listed.size := by omega
        simp only [Array.getD, this, dif_pos] at hib ⊢
        exact hib
      refine ⟨fun hre => ?_, fun i hir => ?_⟩
      · obtain ⟨i, o, h1, h2, h3, h4⟩ := hsome
        have := (hready listed i).2 ⟨o, h1, h3, h4⟩
        rw [hre] at this
        cases this
      obtain ⟨o, ho, hli, hdeps⟩ := (hready listed i).1 hir
      have hilt : i < ops.length := (List.getElem?_eq_some_iff.1 ho).1
      have him : i < m := by
        rcases Nat.lt_or_ge i m with h | h
        · exact h
        · exact absurd (fun j hj => htail (fun j => listed.getD j false = true) hcl i o ho h hdeps j (by omega)) hall
      have hob := Obls.get (ops.take m) 0 i o hobl (by rw [List.getElem?_take_of_lt him]; exact ho)
      rw [Nat.zero_add] at hob
      have hfr : F = mkF (hv (dstsOf (ops.take m)) F f) (slots ops ss vals (depsOf o)) := mkF_eq (slots_eq _ fun j hj d hd => (hin j (hdeps j hj)).2.1 d hd) hag
      have hlif : listed.getD i false = false := by
        have : i < listed.size := by omega
        simp only [Array.getD, this, dif_pos] at hli ⊢
        exact hli
      have hw := hob F vals lo hi w1 hEw (fun j hj hfr => (hin j (hdeps j hj)).2.2 (fun k hk ht => freeB_iff.1 hfr k (hin k hk).1 (fun e => by rw [e, hlif] at hk; cases hk) ht)) n a (by rw [← hfr]; exact hr)
      have hcnt : (listed.setIfInBounds i true).toList.count false ≤ fuel := by
        have hlt : i < listed.size := by omega
        have h2 : listed.toList[i]'(by simpa using hlt) = false := by
          simp only [Array.getD, hlt, dif_pos] at hli
          simpa using hli
        rw [Array.toList_setIfInBounds, List.count_set (by simpa using hlt)]
        simp only [h2]
        have hpos : 0 < listed.toList.count false := List.count_pos_iff.2 (h2 ▸ List.getElem_mem _)
        simp
        have hc2 : Array.count false listed = listed.toList.count false := by simp
        omega
      have hdN' : ∀ d, o.dst = some d → d < N := fun d hd => by
        have := List.all_eq_true.1 hdN d (List.mem_filterMap.2 ⟨o, List.mem_iff_getElem?.2 ⟨i, by rw [List.getElem?_take_of_lt him]; exact ho⟩, hd⟩)
        rwa [Nat.blt_eq] at this
      have hnext : ∀ (a' : Act) (w' : World), (∃ v, a'.tmps = (a.put o.dst v).tmps) →
          (∃ F' ds', Rep N a' F' ds' ∧ (ds' = ds ∧ Ext (wr ss lo hi i) w1 w' ∧ (match o.dst with | some d => good ss vals lo hi i (F' d) w1.heap.size w'.heap.size w' | none => good ss vals lo hi i undef w1.heap.size w'.heap.size w'))) →
          wpAnyIn (fence ro) n P .any ops.toArray (lift N Q) fuel (listed.setIfInBounds i true) a' w' := by
        rintro a' w' ⟨v, hv⟩ ⟨F', ds', hr', rfl, hE, hg⟩
        have hput := (hr.put (d := o.dst) hdN' v)
        have hF' : F' = updO F o.dst v := by
          rw [← hr'.get, ← hput.get, hv]
        have hgv : good ss vals lo hi i (match o.dst with | some _ => v | none => undef) w1.heap.size w'.heap.size w' := by
          cases hd : o.dst with
          | none => simp only [hd] at hg; exact hg
          | some d =>
            simp only [hd] at hg
            rw [hF', hd] at hg
            have : upd F d v d = v := by simp [upd]
            simpa [updO, this] using hg
        have hwr : ∀ b, wr ss lo hi i b → ∃ k, turns ss i = some k ∧ listed.getD k false = true ∧ lo k ≤ b ∧ b < hi k ∧ w.heap.size ≤ b := by
          rintro b ⟨k, hk1, hk2, hk3⟩
          obtain ⟨_, ⟨o', ho1, ho2, _⟩, _⟩ := hconE i k him hk1
          rw [ho] at ho1
          cases ho1
          have := hbd k (hdeps k ho2)
          exact ⟨k, hk1, hdeps k ho2, hk2, hk3, by omega⟩
        have hEw' : Ext no w w' := hEw.comp hE (fun b hb => .inr (by obtain ⟨k, _, _, _, _, h⟩ := hwr b hb; exact h))
        have hold : ∀ j, j ≠ i → (listed.setIfInBounds i true).getD j false = true → listed.getD j false = true := fun j hji hj => by
          have : (listed.setIfInBounds i true).getD j false = listed.getD j false := by
            simp only [Array.getD_eq_getD_getElem?, Array.getElem?_setIfInBounds_ne (Ne.symm hji)]
          rwa [this] at hj
        have hnew : ∀ j, listed.getD j false = true → (listed.setIfInBounds i true).getD j false = true := fun j hj => by
          by_cases e : j = i
          · rw [e, hlif] at hj; cases hj
          · have : (listed.setIfInBounds i true).getD j false = listed.getD j false := by
              simp only [Array.getD_eq_getD_getElem?, Array.getElem?_setIfInBounds_ne (Ne.symm e)]
            rwa [this]
        have hnewi : (listed.setIfInBounds i true).getD i false = true := by
          have : i < listed.size := by omega
          simp [Array.getD_eq_getD_getElem?, this]
        let v' : Value := match o.dst with | some _ => v | none => undef
        have hvals : ∀ j, j ≠ i → valOf ss (fun j => if j = i then v' else vals j) j = valOf ss vals j := by
          intro j hj
          unfold valOf
          split <;> simp [hj]
        refine ih (listed.setIfInBounds i true) a' w' (fun j => if j = i then v' else vals j) (fun j => if j = i then w1.heap.size else lo j) (fun j => if j = i then w'.heap.size else hi j) F' hr' ?_ (by simpa using hsz) ?_ ?_ ?_ ?_ hEw' hcnt
        · rw [hF']
          intro t ht
          cases hd : o.dst with
          | none => exact hag t ht
          | some d =>
            have hdm : (dstsOf (ops.take m)).elem d = true := List.elem_iff.2 (List.mem_filterMap.2 ⟨o, List.mem_iff_getElem?.2 ⟨i, by rw [List.getElem?_take_of_lt him]; exact ho⟩, hd⟩)
            exact agree_upd hdm hag t ht
        · intro j hj
          by_cases hji : j = i
          · subst hji
            refine ⟨him, ?_, ?_⟩
            · intro d hd
              have hd' : o.dst = some d := by
                unfold dstAt at hd
                rw [ho] at hd
                exact hd
              rw [hF', hd']
              have e1 : updO F (some d) v d = v := by simp [updO, upd]
              rw [e1]
              have e2 : v' = v := by show (match o.dst with | some _ => v | none => undef) = v; rw [hd']
              unfold valOf
              have hgv' : good ss vals lo hi j v w1.heap.size w'.heap.size w' := by have := hgv; rw [hd'] at this; exact this
              unfold good at hgv'
              split
              · rename_i u hu; rw [hu] at hgv'; exact hgv'
              · simp [e2]
            · intro _
              unfold sat
              unfold good at hgv
              split
              · rename_i φ hφ; rw [hφ] at hgv; simp only [if_true]; exact hgv
              · rename_i k φ hφ
                rw [hφ] at hgv
                have hki : k ≠ j := by
                  have := (hconE j k him (by unfold turns; rw [hφ])).1
                  omega
                simp only [hki, if_false]
                exact hgv
              · trivial
          · have hj' : listed.getD j false = true := by
              have : (listed.setIfInBounds i true).getD j false = listed.getD j false := by
                simp only [Array.getD_eq_getD_getElem?, Array.getElem?_setIfInBounds_ne (Ne.symm hji)]
              rw [this] at hj; exact hj
            obtain ⟨hjm, h1, h2⟩ := hin j hj'
            refine ⟨hjm, ?_, ?_⟩
            · intro d hd
              rw [hvals j hji, ← h1 d hd, hF']
              cases hod : o.dst with
              | none => rfl
              | some d0 =>
                have hne : d ≠ d0 := fun e => hji (dst_inj' hnd' hjm him hd (by unfold dstAt; rw [ho]; rw [← e] at hod; exact hod))
                have : Nat.beq d d0 = false := by
                  cases hb : Nat.beq d d0 with
                  | false => rfl
                  | true => exact absurd (Nat.eq_of_beq_eq_true hb) hne
                simp [updO, upd, this]
            · intro hfr
              have h2 := h2 (fun k hk => hfr k (hnew k hk))
              have hti : turns ss i ≠ some j := hfr i hnewi
              unfold sat at h2 ⊢
              split
              · rename_i φ hφ
                rw [hφ] at h2
                simp only [hji, if_false]
                exact hst φ (mem_of_get hφ) _ _ _ _ _ hEw (hE.mono (fun b hb => by obtain ⟨k, hk1, _⟩ := hb; rw [noSt_turns ss i hns] at hk1; cases hk1)) h2
              · rename_i q φ hφ
                rw [hφ] at h2
                have htj : turns ss j = some q := by unfold turns; rw [hφ]
                rw [noSt_turns ss j hns] at htj
                cases htj
              · trivial
        · intro x ox hx hox k hk
          by_cases hxi : x = i
          · rw [hxi, ho] at hox
            cases hox
            exact hnew k (hdeps k hk)
          · exact hnew k (hcl x ox (hold x hxi hx) hox k hk)
        · intro x y hx hy hxy
          by_cases hxi : x = i
          · have hyi : y ≠ i := fun e => hxy (hxi.trans e.symm)
            have := hbd y (hold y hyi hy)
            simp only [hxi, hyi, if_true, if_false]
            omega
          · by_cases hyi : y = i
            · have := hbd x (hold x hxi hx)
              simp only [hxi, hyi, if_true, if_false]
              omega
            · simp only [hxi, hyi, if_false]
              exact hdj x y (hold x hxi hx) (hold y hyi hy) hxy
        · intro j hj
          by_cases hji : j = i
          · simp only [hji, if_true]
            exact ⟨hEw.size, hE.size, Nat.le_refl _⟩
          · have hj' : listed.getD j false = true := by
              have : (listed.setIfInBounds i true).getD j false = listed.getD j false := by
                simp only [Array.getD_eq_getD_getElem?, Array.getElem?_setIfInBounds_ne (Ne.symm hji)]
              rwa [this] at hj
            have := hbd j hj'
            have := hE.size
            simp only [hji, if_false]
            omega
      unfold wpOpIn
      have ho' : ops.toArray[i]? = some o := by simpa using ho
      simp only [ho']
      unfold wpListIn at hw
      cases hwd : Region.wanted o (yielded ops.toArray a.tmps) with
      | true =>
        simp only [hwd, if_true] at hw ⊢
        refine wpIn_monoP ?_ ?_ hw
        · intro a' w' hp hK
          exact hnext a' w' hp hK
        · rintro e a' w' hne ⟨F', ds', hr', q⟩
          cases e <;> first | exact absurd rfl hne | exact ⟨F', ds', hr', q⟩
      | false =>
        simp only [hwd, Bool.false_eq_true, if_false] at hw ⊢
        exact ⟨hw.1, hnext _ _ ⟨undef, rfl⟩ hw.2⟩
  refine wpIn_region_any hm ?_
  have hno : ∀ j, (Array.replicate ops.toArray.size false).getD j false = false := fun j => by
    simp only [Array.getD_eq_getD_getElem?, Array.getElem?_replicate]
    split <;> rfl
  refine key _ _ a _ (fun _ => undef) (fun _ => 0) (fun _ => 0) f hr (Agree.refl _ _) (by simp) (fun j hj => by rw [hno] at hj; cases hj) (fun i o hi => by rw [hno] at hi; cases hi) (fun i j hi => by rw [hno] at hi; cases hi) (fun j hj => by rw [hno] at hj; cases hj) (ext_drawn w (w.drawn + 1)) (by simp)
end
/-- A slice that another operation of the region has made. -/
def FldA (T : TypeId) (cs : List Value) (n c : Nat) (v : Value) (_ _ : Nat) (w : World) : Prop := ∃ q, v = .slice (some ⟨q, 0, none⟩) n c ∧ w.heap[q]? = some (.cells cs.toArray T (0, 0))
theorem flda_stays {T : TypeId} {cs : List Value} {n c : Nat} {v : Value} {lo hi : Nat} {w1 w2 : World} (x : Ext no w1 w2) (h : FldA T cs n c v lo hi w1) : FldA T cs n c v lo hi w2 := by
  obtain ⟨q, h1, h2⟩ := h
  exact ⟨q, h1, x.heap h2 (fun y => y)⟩
end K
end Go.Proofs.YtofpabocpcfbfaaDoor

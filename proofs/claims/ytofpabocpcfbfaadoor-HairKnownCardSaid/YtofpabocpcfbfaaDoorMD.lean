/- What the functions of the layer of hair compute, and plain laws of it. Conditions: none. -/
import Derived.Test.YtofpabocpcfbfaaDoorMK
import Derived.Laws.Entries
set_option linter.unusedSimpArgs false
set_option linter.unusedVariables false

/- Data: what the program's books read as. Conditions: none. -/
namespace Go.Proofs.YtofpabocpcfbfaaDoor
namespace K
open Go
/-- A row of n elements at A, each of sz cells, that read as xs. -/
def RdRow {α : Type} (enc : α → List Value) (sz : Nat) (w : World) (A : Option Addr) (n : Nat) (xs : List α) : Prop :=
  xs.length = n ∧ n ≤ 1125899906842624 ∧ ∀ i x, xs[i]? = some x → ∃ a, A = some a ∧ Cells w (a.add (i * sz)) (enc x)
theorem RdRow.ext {α : Type} {enc : α → List Value} {sz : Nat} {w w' : World} {A : Option Addr} {n : Nat} {xs : List α} (h : RdRow enc sz w A n xs) (e : Ext no w w') : RdRow enc sz w' A n xs :=
  ⟨h.1, h.2.1, fun i x hi => let ⟨a, h1, h2⟩ := h.2.2 i x hi; ⟨a, h1, h2.ext e⟩⟩
theorem RdRow.get {α : Type} {enc : α → List Value} {sz : Nat} {w : World} {A : Option Addr} {n : Nat} {xs : List α} (h : RdRow enc sz w A n xs) {k : Nat} (hk : k < n) : ∃ x a, xs[k]? = some x ∧ A = some a ∧ Cells w (a.add (k * sz)) (enc x) := by
  have hl : k < xs.length := by rw [h.1]; exact hk
  obtain ⟨a, h1, h2⟩ := h.2.2 k xs[k] (List.getElem?_eq_getElem hl)
  exact ⟨xs[k], a, List.getElem?_eq_getElem hl, h1, h2⟩
def I (n : Int) : Value := .int .i64 n
structure Sp where
  lo : Int
  hi : Int
  deriving DecidableEq
abbrev Sp.enc (s : Sp) : List Value := [.int .i64 s.lo, .int .i64 s.hi]
structure Hank where
  w : Sp
  s : Sp
  deriving DecidableEq
abbrev Hank.enc (h : Hank) : List Value := [.int .i64 h.w.lo, .int .i64 h.w.hi, .int .i64 h.s.lo, .int .i64 h.s.hi]
structure Horse where
  mane : Int
  tail : Int
  shade : Int
  deriving DecidableEq
abbrev Horse.enc (h : Horse) : List Value := [.int .i64 h.mane, .int .i64 h.tail, .int .i64 h.shade]
structure HBook where
  hanks : List Hank
  horses : List Horse
  dark : Int
  near : Int
  mat : Int
/-- A book's cells: two slices, three numbers. -/
structure HV where
  A1 : Option Addr
  n1 : Nat
  c1 : Nat
  A2 : Option Addr
  n2 : Nat
  c2 : Nat
abbrev HBook.enc (b : HBook) (v : HV) : List Value := [.slice v.A1 v.n1 v.c1, .slice v.A2 v.n2 v.c2, .int .i64 b.dark, .int .i64 b.near, .int .i64 b.mat]
def RdBook (w : World) (v : HV) (b : HBook) : Prop := RdRow Hank.enc 4 w v.A1 v.n1 b.hanks ∧ RdRow Horse.enc 3 w v.A2 v.n2 b.horses
theorem RdBook.ext {w w' : World} {v : HV} {b : HBook} (h : RdBook w v b) (e : Ext no w w') : RdBook w' v b := ⟨h.1.ext e, h.2.ext e⟩
def hankOk (h : Hank) : Bool :=
  (decide (1 ≤ h.w.lo) && decide (h.w.lo ≤ h.w.hi) && decide (h.w.hi ≤ 60) && decide (h.w.hi - h.w.lo ≤ 4)) && (decide (0 ≤ h.s.lo) && decide (h.s.lo ≤ h.s.hi) && decide (h.s.hi ≤ 20) && decide (h.s.hi - h.s.lo ≤ 2))
def horseOk (h : Horse) : Bool := (decide (1 ≤ h.mane) && decide (h.mane ≤ 30)) && (decide (1 ≤ h.tail) && decide (h.tail ≤ 30)) && (decide (0 ≤ h.shade) && decide (h.shade ≤ 25))
def headOk (b : HBook) : Bool := decide (b.hanks.length ≤ 4) && decide (b.horses.length ≤ 3) && (decide (0 ≤ b.dark) && decide (b.dark ≤ 4)) && (decide (0 ≤ b.near) && decide (b.near ≤ 3)) && (decide (0 ≤ b.mat) && decide (b.mat ≤ 3))
def HBook.valid (b : HBook) : Bool := headOk b && b.hanks.all hankOk && b.horses.all horseOk
def HBook.chk (b : HBook) : Int := if b.valid then 0 else 60
theorem all_take_succ {α : Type} {p : α → Bool} {xs : List α} {k : Nat} {x : α} (h : xs[k]? = some x) : (xs.take (k + 1)).all p = ((xs.take k).all p && p x) := by
  rw [List.take_add_one, h]
  simp
/-- acc, and p of the first k. -/
def accAll {α : Type} (acc : Bool) (p : α → Bool) (xs : List α) (k : Nat) : Bool := acc && (xs.take k).all p
theorem accAll_zero {α : Type} {acc : Bool} {p : α → Bool} {xs : List α} : accAll acc p xs 0 = acc := by simp [accAll]
theorem accAll_succ {α : Type} {acc : Bool} {p : α → Bool} {xs : List α} {k : Nat} {x : α} (h : xs[k]? = some x) : accAll acc p xs (k + 1) = (accAll acc p xs k && p x) := by
  unfold accAll
  rw [List.take_add_one, h]
  simp [Bool.and_assoc]
theorem accAll_end {α : Type} {acc : Bool} {p : α → Bool} {xs : List α} {k : Nat} (h : xs.length ≤ k) : accAll acc p xs k = (acc && xs.all p) := by
  unfold accAll
  rw [List.take_of_length_le h]
theorem take_all {α : Type} {xs : List α} {k : Nat} (h : xs.length ≤ k) : xs.take k = xs := List.take_of_length_le h
end K
end Go.Proofs.YtofpabocpcfbfaaDoor

/- Data: books in the calculation. Conditions: none. -/
namespace Go.Proofs.YtofpabocpcfbfaaDoor
namespace K
open Go
abbrev Sp0 : Sp := ⟨0, 0⟩
abbrev Hank0 : Hank := ⟨Sp0, Sp0⟩
abbrev Horse0 : Horse := ⟨0, 0, 0⟩
def HBook.hank (b : HBook) (k : Int) : Hank := b.hanks.getD k.toNat Hank0
def HBook.horse (b : HBook) (k : Int) : Horse := b.horses.getD k.toNat Horse0
/-- Shades of a hank, by the first j steps. -/
def shRow (k : Nat) (s : Sp) (j : Nat) : List (List Int × List Int) := (List.range j).map fun (n : Nat) => ([(k : Int), (n : Int)], [s.lo + (n : Int), s.hi + (n : Int)])
def shTo (hs : List Hank) (D : Nat) (k : Nat) : List (List Int × List Int) := (List.range k).flatMap fun i => shRow i ((hs.getD i Hank0).s) D
def sh (b : HBook) : List (List Int × List Int) := shTo b.hanks (b.dark + 1).toNat b.hanks.length
/-- A book as the calculation may have it: up to five hanks. -/
structure GoodB (b : HBook) : Prop where
  l1 : b.hanks.length ≤ 5
  l2 : b.horses.length ≤ 3
  dark : 0 ≤ b.dark ∧ b.dark ≤ 4
  near : 0 ≤ b.near ∧ b.near ≤ 3
  mat : 0 ≤ b.mat ∧ b.mat ≤ 3
  hank : ∀ h ∈ b.hanks, 1 ≤ h.w.lo ∧ h.w.lo ≤ h.w.hi ∧ h.w.hi ≤ 60 ∧ 0 ≤ h.s.lo ∧ h.s.lo ≤ h.s.hi ∧ h.s.hi ≤ 20
  horse : ∀ x ∈ b.horses, 1 ≤ x.mane ∧ x.mane ≤ 30 ∧ 1 ≤ x.tail ∧ x.tail ≤ 30 ∧ 0 ≤ x.shade ∧ x.shade ≤ 25
theorem GoodB.of_valid {b : HBook} (h : b.valid = true) : GoodB b ∧ b.hanks.length ≤ 4 := by
  unfold HBook.valid headOk at h
  simp only [Bool.and_eq_true, decide_eq_true_eq, List.all_eq_true] at h
  obtain ⟨⟨⟨⟨⟨⟨h1, h2⟩, h3⟩, h4⟩, h5⟩, h6⟩, h7⟩ := h
  refine ⟨⟨by omega, by omega, h3, h4, h5, fun x hx => ?_, fun x hx => ?_⟩, h1⟩
  · have := h6 x hx
    unfold hankOk at this
    simp only [Bool.and_eq_true, decide_eq_true_eq] at this
    omega
  · have := h7 x hx
    unfold horseOk at this
    simp only [Bool.and_eq_true, decide_eq_true_eq] at this
    omega
theorem getD_mem {α : Type} {l : List α} {k : Nat} {d : α} (h : k < l.length) : l.getD k d ∈ l := by
  rw [List.getD_eq_getElem?_getD, List.getElem?_eq_getElem h]
  exact List.getElem_mem h
theorem GoodB.hankAt {b : HBook} (g : GoodB b) {k : Int} (h : 0 ≤ k ∧ k < b.hanks.length) : 1 ≤ (b.hank k).w.lo ∧ (b.hank k).w.lo ≤ (b.hank k).w.hi ∧ (b.hank k).w.hi ≤ 60 ∧ 0 ≤ (b.hank k).s.lo ∧ (b.hank k).s.lo ≤ (b.hank k).s.hi ∧ (b.hank k).s.hi ≤ 20 :=
  g.hank _ (getD_mem (by omega))
theorem GoodB.horseAt {b : HBook} (g : GoodB b) {k : Int} (h : 0 ≤ k ∧ k < b.horses.length) : 1 ≤ (b.horse k).mane ∧ (b.horse k).mane ≤ 30 ∧ 1 ≤ (b.horse k).tail ∧ (b.horse k).tail ≤ 30 ∧ 0 ≤ (b.horse k).shade ∧ (b.horse k).shade ≤ 25 :=
  g.horse _ (getD_mem (by omega))
/-- The table of the parts, as the program's start lays it. -/
abbrev Parts (w : World) : Prop := Cells w ⟨0, 0, none⟩ [.func (.func 202) #[] #[], .func (.func 205) #[] #[]]
/-- What a book in the calculation reads. -/
structure Bk (w : World) (A1 A2 : Option Addr) (n1 n2 : Nat) (m : Nat) (b : HBook) : Prop where
  h1 : RdRow Hank.enc 4 w A1 n1 b.hanks
  h2 : RdRow Horse.enc 3 w A2 n2 b.horses
  hm : w.heap[m]? = some (mobj (sh b))
  good : GoodB b
  parts : Parts w
theorem heap_ext {w w' : World} (e : Ext no w w') {b : Nat} {o : Obj} (h : w.heap[b]? = some o) : w'.heap[b]? = some o := e.heap h (fun x => x)
theorem Bk.ext {w w' : World} {A1 A2 : Option Addr} {n1 n2 m : Nat} {b : HBook} (h : Bk w A1 A2 n1 n2 m b) (e : Ext no w w') : Bk w' A1 A2 n1 n2 m b :=
  ⟨h.h1.ext e, h.h2.ext e, heap_ext e h.hm, h.good, h.parts.ext e⟩
theorem RdRow.at {α : Type} {enc : α → List Value} {sz : Nat} {w : World} {A : Option Addr} {n : Nat} {xs : List α} (h : RdRow enc sz w A n xs) {d : α} {k : Int} (hk : 0 ≤ k ∧ k < n) : ∃ a, A = some a ∧ Cells w (a.add (k.toNat * sz)) (enc (xs.getD k.toNat d)) := by
  obtain ⟨x, a, h1, h2, h3⟩ := h.get (k := k.toNat) (by omega)
  refine ⟨a, h2, ?_⟩
  rw [List.getD_eq_getElem?_getD, h1]
  exact h3
theorem Bk.hank {w : World} {A1 A2 : Option Addr} {n1 n2 m : Nat} {b : HBook} (h : Bk w A1 A2 n1 n2 m b) {k : Int} (hk : 0 ≤ k ∧ k < n1) : ∃ a, A1 = some a ∧ Cells w (a.add (k.toNat * 4)) (b.hank k).enc := h.h1.at hk
theorem Bk.horse {w : World} {A1 A2 : Option Addr} {n1 n2 m : Nat} {b : HBook} (h : Bk w A1 A2 n1 n2 m b) {k : Int} (hk : 0 ≤ k ∧ k < n2) : ∃ a, A2 = some a ∧ Cells w (a.add (k.toNat * 3)) (b.horse k).enc := h.h2.at hk
/-! ### Shades -/
theorem shRow_keys {k : Nat} {s : Sp} {j : Nat} : ∀ e ∈ shRow k s j, e.1.length = 2 := by
  intro e he
  obtain ⟨n, _, rfl⟩ := List.mem_map.1 he
  rfl
theorem shTo_keys {hs : List Hank} {D k : Nat} : ∀ e ∈ shTo hs D k, e.1.length = 2 := by
  intro e he
  obtain ⟨i, _, hi⟩ := List.mem_flatMap.1 he
  exact shRow_keys e hi
theorem shRow_succ {k : Nat} {s : Sp} {j : Nat} : shRow k s (j + 1) = shRow k s j ++ [([(k : Int), (j : Int)], [s.lo + j, s.hi + j])] := by
  unfold shRow
  rw [List.range_succ, List.map_append]
  rfl
theorem shTo_succ {hs : List Hank} {D k : Nat} : shTo hs D (k + 1) = shTo hs D k ++ shRow k (hs.getD k Hank0).s D := by
  unfold shTo
  rw [List.range_succ, List.flatMap_append]
  simp
theorem mget_shRow {k : Nat} {s : Sp} {a b : Int} : ∀ {j : Nat}, mget (shRow k s j) [a, b] = if a = k ∧ 0 ≤ b ∧ b < j then some [s.lo + b, s.hi + b] else none
  | 0 => by
    have : ¬ (a = k ∧ 0 ≤ b ∧ b < ((0 : Nat) : Int)) := by omega
    rw [if_neg this]
    rfl
  | j + 1 => by
    rw [shRow_succ, mget_append, mget_shRow (j := j)]
    by_cases h1 : a = k ∧ 0 ≤ b ∧ b < j
    · rw [if_pos h1, if_pos (by omega)]
      rfl
    · rw [if_neg h1]
      by_cases h2 : a = k ∧ b = j
      · rw [if_pos (by omega)]
        obtain ⟨rfl, rfl⟩ := h2
        simp [mget]
      · rw [if_neg (by omega)]
        have h3 : ¬ (a = k ∧ b = j) := h2
        simp [mget, h3]
theorem mget_shTo {hs : List Hank} {D : Nat} {a b : Int} : ∀ {k : Nat}, mget (shTo hs D k) [a, b] = if (0 ≤ a ∧ a < k) ∧ 0 ≤ b ∧ b < D then some [(hs.getD a.toNat Hank0).s.lo + b, (hs.getD a.toNat Hank0).s.hi + b] else none
  | 0 => by
    have : ¬ ((0 ≤ a ∧ a < ((0 : Nat) : Int)) ∧ 0 ≤ b ∧ b < D) := by omega
    rw [if_neg this]
    rfl
  | k + 1 => by
    rw [shTo_succ, mget_append, mget_shTo (k := k), mget_shRow]
    by_cases h1 : (0 ≤ a ∧ a < k) ∧ 0 ≤ b ∧ b < D
    · have h2 : (0 ≤ a ∧ a < ((k + 1 : Nat) : Int)) ∧ 0 ≤ b ∧ b < D := by omega
      rw [if_pos h1, if_pos h2]
      rfl
    · rw [if_neg h1]
      by_cases h2 : a = k ∧ 0 ≤ b ∧ b < D
      · rw [if_pos h2, if_pos (by omega)]
        obtain ⟨rfl, _⟩ := h2
        simp
      · rw [if_neg h2, if_neg (by omega)]
        rfl
theorem mapVal_sh {b : HBook} {z : Value} {a n : Int} (ha : 0 ≤ a ∧ a < b.hanks.length) (hn : 0 ≤ n ∧ n ≤ b.dark) : mapVal z (sh b) [a, n] = kv [(b.hank a).s.lo + n, (b.hank a).s.hi + n] := by
  unfold mapVal sh
  rw [mget_shTo, if_pos (by omega)]
  rfl
abbrev IE (n : Int) : List Value := [.int .i64 n]
abbrev RdInts (w : World) (A : Option Addr) (n : Nat) (xs : List Int) : Prop := RdRow IE 1 w A n xs
theorem cells_row {w : World} {a : Addr} {vs : List Int} (h : Cells w a (vs.map iv)) (hn : vs.length ≤ 1125899906842624) : RdInts w (some a) vs.length vs :=
  ⟨rfl, hn, fun i x hx => ⟨a, rfl, fun j v hj => by
    have hj0 : j = 0 := by
      cases j with
      | zero => rfl
      | succ j => simp at hj
    subst hj0
    simp only [List.getElem?_cons_zero, Option.some.injEq] at hj
    subst hj
    rw [add_add]
    exact h (i * 1 + 0) _ (by simp [hx])⟩⟩
theorem foldl_take {α β : Type} (f : β → α → β) (z : β) (xs : List α) {k : Nat} {x : α} (h : xs[k]? = some x) : (xs.take (k + 1)).foldl f z = f ((xs.take k).foldl f z) x := by
  rw [List.take_add_one, h]
  simp
/-! ### What the functions compute -/
/-- Whether parts match, dyed so. -/
def HBook.mt (b : HBook) (i mh ms th ts : Int) : Bool :=
  let W := (b.horse i).shade
  let ml := (b.hank mh).s.lo + ms
  let mu := (b.hank mh).s.hi + ms
  let tl := (b.hank th).s.lo + ts
  let tu := (b.hank th).s.hi + ts
  if b.near < [W - ml, tu - W, W - tl].foldl max (mu - W) then false
  else if mh = th then decide ([mh, ms] = [th, ts]) || (decide (-b.mat ≤ ms - ts) && decide (ms - ts ≤ b.mat))
  else decide ([tu - ml].foldl max (mu - tl) ≤ b.mat)
theorem sh_new {hs : List Hank} {D : Nat} {k j : Nat} {s : Sp} : mget (shTo hs D k ++ shRow k s j) [(k : Int), (j : Int)] = none := by
  rw [mget_append, mget_shTo, mget_shRow, if_neg (by omega), if_neg (by omega)]
  rfl
theorem sh_keys {hs : List Hank} {D : Nat} {k j : Nat} {s : Sp} : ∀ e ∈ shTo hs D k ++ shRow k s j, e.1.length = 2 := by
  intro e he
  rcases List.mem_append.1 he with he | he
  · exact shTo_keys e he
  · exact shRow_keys e he
theorem fs_succ {β : Type} {F : Nat → Option β} {m : Nat} : (List.range (m + 1)).findSome? F = ((List.range m).findSome? F).or (F m) := by
  rw [List.range_succ, List.findSome?_append]
  simp
theorem fs_hit {β : Type} {F : Nat → Option β} {m : Nat} {y : β} (h : (List.range m).findSome? F = none) (hy : F m = some y) : ∀ {D : Nat}, m < D → (List.range D).findSome? F = some y
  | D + 1, hm => by
    rw [fs_succ]
    rcases Nat.lt_or_ge m D with h1 | h1
    · rw [fs_hit h hy h1]; rfl
    · have : m = D := by omega
      subst this
      rw [h, hy]; rfl
/-- The first steps by which parts match. -/
def HBook.dyT (b : HBook) (i mh th : Int) (m : Nat) (t : Nat) : Option (Int × Int) := bif b.mt i mh m th t then some ((m : Int), (t : Int)) else none
def HBook.dyM (b : HBook) (i mh th : Int) (m : Nat) : Option (Int × Int) := (List.range (b.dark + 1).toNat).findSome? (b.dyT i mh th m)
def HBook.dy (b : HBook) (i mh th : Int) : Option (Int × Int) := (List.range (b.dark + 1).toNat).findSome? (b.dyM i mh th)
def HBook.sure (b : HBook) (i mh th : Int) : Bool := (b.dy i mh th).isSome
def HBook.dyo (b : HBook) (i mh th : Int) : Int × Int := (b.dy i mh th).getD (0, 0)
end K
end Go.Proofs.YtofpabocpcfbfaaDoor

/- Data: what is cut, plans. Conditions: none. -/
namespace Go.Proofs.YtofpabocpcfbfaaDoor
namespace K
open Go
theorem ld_hb {P : Program} {w : World} {t : TypeId} {b k n : Nat} {T : TypeId} {cs vs : List Value} (h : w.heap[b]? = some (.cells cs.toArray T (0, 0))) (hv : (cs.drop k).take n = vs) (hn : vs.length = n) (ht : agB P t n = true) : Ld P w t ⟨b, k, none⟩ (.agg vs.toArray) := by
  refine ld_ag (n := n) ?_ ht hn
  subst hv
  have := (box_cells h k).at 0 n
  rwa [add_zero, List.drop_zero] at this
abbrev zero5 : List Int := [0, 0, 0, 0, 0]
abbrev hcell (h : Horse) (n : Nat) : Int := bif n % 2 == 0 then h.mane else h.tail
def HBook.part (b : HBook) (n : Nat) : Int := hcell (b.horses.getD (n / 2) Horse0) n
def addAt (u : List Int) (k : Int) (x : Int) : List Int := u.set k.toNat (u.getD k.toNat 0 + x)
def HBook.cutTo (b : HBook) (plan : List Int) (n : Nat) : List Int := (List.range n).foldl (fun u i => addAt u (plan.getD i 0) (b.part i)) zero5
def HBook.cutOf (b : HBook) (plan : List Int) : List Int := b.cutTo plan plan.length
def HBook.isPlan (b : HBook) (plan : List Int) : Bool := decide (plan.length = 2 * b.horses.length) && plan.all fun x => decide (0 ≤ x) && decide (x ≤ (b.hanks.length : Int) - 1)
def Hank.at (h : Hank) (up : Bool) : Int := bif up then h.w.hi else h.w.lo
def HBook.offTo (b : HBook) (u : List Int) (up : Bool) (k : Nat) : Int := (List.range k).foldl (fun n k => bif decide (0 < u.getD k 0) then n + ((b.hanks.getD k Hank0).at up - u.getD k 0) else n) 0
def HBook.offOf (b : HBook) (u : List Int) (up : Bool) : Int := b.offTo u up b.hanks.length
def HBook.fits (b : HBook) (u : List Int) (k : Nat) : Bool := decide (u.getD k 0 ≤ (b.hanks.getD k Hank0).w.lo)
def HBook.pair (b : HBook) (plan : List Int) (n : Nat) : Bool := b.sure n (plan.getD (2 * (n : Int)).toNat 0) (plan.getD (2 * (n : Int) + 1).toNat 0)
def HBook.works (b : HBook) (plan : List Int) : Bool := (List.range b.hanks.length).all (b.fits (b.cutOf plan)) && (List.range b.horses.length).all (b.pair plan)
/-- What is cut: five numbers, none below 0 or above a bound. -/
structure UOk (u : List Int) (B : Int) : Prop where
  len : u.length = 5
  bd : ∀ k, 0 ≤ u.getD k 0 ∧ u.getD k 0 ≤ B
theorem UOk.zero {B : Int} (h : 0 ≤ B) : UOk zero5 B := by
  refine ⟨rfl, fun k => ?_⟩
  match k with
  | 0 | 1 | 2 | 3 | 4 => exact ⟨Int.le_refl _, h⟩
  | n + 5 => exact ⟨Int.le_refl _, h⟩
theorem UOk.mono {u : List Int} {B C : Int} (h : UOk u B) (hc : B ≤ C) : UOk u C := ⟨h.len, fun k => ⟨(h.bd k).1, by have := (h.bd k).2; omega⟩⟩
theorem UOk.addAt {u : List Int} {B : Int} (h : UOk u B) {k x : Int} (hx : 0 ≤ x ∧ x ≤ 30) : UOk (addAt u k x) (B + 30) := by
  refine ⟨by simp [K.addAt, h.len], fun j => ?_⟩
  unfold K.addAt
  rw [List.getD_eq_getElem?_getD, List.getElem?_set]
  have h1 := h.bd k.toNat
  have h2 := h.bd j
  rw [List.getD_eq_getElem?_getD] at h2
  split
  · split
    · simp only [Option.getD_some]; omega
    · simp only [Option.getD_none]; omega
  · omega
theorem HBook.part_bd {b : HBook} (g : GoodB b) {n : Nat} (h : n < 2 * b.horses.length) : 1 ≤ b.part n ∧ b.part n ≤ 30 := by
  have := g.horse _ (getD_mem (d := Horse0) (k := n / 2) (l := b.horses) (by omega))
  unfold HBook.part hcell
  cases (n % 2 == 0) <;> simp only [cond_true, cond_false] <;> omega
theorem HBook.cutTo_succ {b : HBook} {plan : List Int} {n : Nat} : b.cutTo plan (n + 1) = addAt (b.cutTo plan n) (plan.getD n 0) (b.part n) := by
  unfold HBook.cutTo
  rw [List.range_succ, List.foldl_append]
  rfl
theorem HBook.cutTo_ok {b : HBook} (g : GoodB b) {plan : List Int} : ∀ {n : Nat}, n ≤ 2 * b.horses.length → UOk (b.cutTo plan n) (30 * n)
  | 0, _ => UOk.zero (by omega)
  | n + 1, h => by
    rw [HBook.cutTo_succ]
    have h1 := HBook.cutTo_ok g (plan := plan) (n := n) (by omega)
    have h2 := HBook.part_bd g (n := n) (by omega)
    exact (h1.addAt (by omega)).mono (by omega)
theorem HBook.offTo_succ {b : HBook} {u : List Int} {up : Bool} {k : Nat} : b.offTo u up (k + 1) = bif decide (0 < u.getD k 0) then b.offTo u up k + ((b.hanks.getD k Hank0).at up - u.getD k 0) else b.offTo u up k := by
  unfold HBook.offTo
  rw [List.range_succ, List.foldl_append]
  rfl
theorem Hank.at_bd {b : HBook} (g : GoodB b) {up : Bool} {k : Nat} (h : k < b.hanks.length) : 1 ≤ (b.hanks.getD k Hank0).at up ∧ (b.hanks.getD k Hank0).at up ≤ 60 := by
  have := g.hank _ (getD_mem (d := Hank0) (k := k) h)
  unfold Hank.at
  cases up <;> simp only [cond_true, cond_false] <;> omega
theorem HBook.offTo_bd {b : HBook} (g : GoodB b) {u : List Int} {B : Int} (hu : UOk u B) {up : Bool} : ∀ {k : Nat}, k ≤ b.hanks.length → -B * k ≤ b.offTo u up k ∧ b.offTo u up k ≤ 60 * k
  | 0, _ => by simp [HBook.offTo]
  | k + 1, h => by
    have h1 := HBook.offTo_bd g hu (up := up) (k := k) (by omega)
    have h2 := Hank.at_bd g (up := up) (k := k) (by omega)
    have h3 := hu.bd k
    rw [HBook.offTo_succ]
    have h4 : -B * ((k + 1 : Nat) : Int) = -B * k - B := by rw [Int.natCast_add, Int.mul_add]; simp; omega
    rw [h4]
    cases decide (0 < u.getD k 0) <;> simp only [cond_true, cond_false] <;> omega
theorem HBook.offTo_zero {b : HBook} {up : Bool} : ∀ {k : Nat}, b.offTo zero5 up k = 0
  | 0 => rfl
  | k + 1 => by
    rw [HBook.offTo_succ, HBook.offTo_zero (k := k)]
    have : zero5.getD k 0 = 0 := by
      match k with
      | 0 | 1 | 2 | 3 | 4 => rfl
      | n + 5 => rfl
    rw [this]
    rfl
theorem all_succ {p : Nat → Bool} {n : Nat} : (List.range (n + 1)).all p = ((List.range n).all p && p n) := by
  rw [List.range_succ, List.all_append]
  simp
theorem all_false {p : Nat → Bool} {n k : Nat} (h : p k = false) (hk : k < n) : (List.range n).all p = false := by
  rw [← Bool.not_eq_true, List.all_eq_true]
  intro hh
  have := hh k (List.mem_range.2 hk)
  rw [h] at this
  cases this
theorem any_take_succ {p : Int → Bool} {xs : List Int} {k : Nat} {d : Int} (h : k < xs.length) : (xs.take (k + 1)).any p = ((xs.take k).any p || p (xs.getD k d)) := by
  rw [List.take_add_one, List.getD_eq_getElem?_getD, List.getElem?_eq_getElem h]
  simp only [List.any_append, Option.toList, List.any_cons, List.any_nil, Bool.or_false, Option.getD_some]
theorem any_of_at {p : Int → Bool} {xs : List Int} {k : Nat} {d : Int} (h : k < xs.length) (hp : p (xs.getD k d) = true) : xs.any p = true := List.any_eq_true.2 ⟨_, getD_mem h, hp⟩
theorem any_not {p : Int → Bool} {xs : List Int} : (!xs.any fun x => !p x) = xs.all p := by
  induction xs with
  | nil => rfl
  | cons x xs ih => simp [List.any_cons, List.all_cons, ← ih]
/-- A part's function, by the number. -/
abbrev pq (n : Nat) : Nat := bif n % 2 == 0 then 202 else 205
theorem ld_parts {P : Program} {w : World} (h : Parts w) (ht : scB P 163 = true) (n : Nat) : Ld P w 163 ((⟨0, 0, none⟩ : Addr).add ((((n % 2 : Nat) : Int)).toNat * 1)) (.func (.func (pq n)) #[] #[]) := by
  have e : (((n % 2 : Nat) : Int)).toNat * 1 = n % 2 := by omega
  rw [e]
  refine ld_sc (h (n % 2) _ ?_) ht
  have : n % 2 = 0 ∨ n % 2 = 1 := by omega
  rcases this with h1 | h1 <;> simp [pq, h1]
theorem HBook.isPlan_at {b : HBook} {plan : List Int} (h : b.isPlan plan = true) {n : Nat} (hn : n < plan.length) : 0 ≤ plan.getD n 0 ∧ plan.getD n 0 < b.hanks.length := by
  unfold HBook.isPlan at h
  simp only [Bool.and_eq_true, decide_eq_true_eq, List.all_eq_true] at h
  have := h.2 _ (getD_mem (d := 0) hn)
  omega
theorem HBook.isPlan_len {b : HBook} {plan : List Int} (h : b.isPlan plan = true) : plan.length = 2 * b.horses.length := by
  unfold HBook.isPlan at h
  simp only [Bool.and_eq_true, decide_eq_true_eq] at h
  exact h.1
theorem ld_arr {P : Program} {w : World} {b : Nat} {T : TypeId} {u : List Int} (h : w.heap[b]? = some (.cells (u.map iv).toArray T (0, 0))) {t : TypeId} (ht : scB P t = true) {x : Int} (hx : 0 ≤ x ∧ x < u.length) : Ld P w t ((⟨b, 0, none⟩ : Addr).add (x.toNat * 1)) (.int .i64 (u.getD x.toNat 0)) := by
  refine ld_sc ?_ ht
  rw [add_own, box_cell h, Nat.zero_add, Nat.mul_one, List.getElem?_map, List.getD_eq_getElem?_getD, List.getElem?_eq_getElem (by omega)]
  rfl
theorem at_arr {b : Nat} {x : Int} : Value.pointer (some ((⟨b, 0, none⟩ : Addr).add (x.toNat * 1))) = .pointer (some ⟨b, x.toNat, none⟩) := by
  rw [add_own, Nat.zero_add, Nat.mul_one]
theorem set_iv {u : List Int} {x y : Int} : (u.map iv).set x.toNat (.int .i64 y) = (u.set x.toNat y).map iv := by
  rw [List.map_set]
theorem RdRow.nat {α : Type} {enc : α → List Value} {sz : Nat} {w : World} {A : Option Addr} {n : Nat} {xs : List α} (h : RdRow enc sz w A n xs) {d : α} {k : Nat} (hk : k < n) : ∃ a, A = some a ∧ Cells w (a.add (((k : Int)).toNat * sz)) (enc (xs.getD k d)) := h.at (k := (k : Int)) (by omega)
section
variable {P : Program} {ro : Option Nat} {N : Nat} {ops : Array Oper} {Q : Post} {f : FV} {ds : List Deferred} {w : World} {rest : List Oper}
variable {d : Nat} {ty : TypeId} {pos : String} {af : Array Edge} {g : Option (Nat × Bool)} {t : TypeId}
theorem take5 {u : List Int} {n : Nat} (h : u.length = n) : ((u.map iv).drop 0).take n = u.map iv := by
  rw [List.drop_zero, List.take_of_length_le (by simp [h])]
theorem len5 {u : List Int} {n : Nat} (h : u.length = n) : (u.map iv).length = n := by rw [List.length_map, h]
theorem r_storeu {w0 : Base} {L : List Item} {x y : Operand} {b i n : Nat} {T : TypeId} {cs : List Value} {u : List Int} (hS : St w0 w L) (hx : ev f x = .pointer (some ⟨b, 0, none⟩)) (hy : ev f y = .agg (u.map iv).toArray)
    (hi : L[i]? = some (box b T cs)) (hs : szB P t n = true) (hu : u.length = n) (hc : cs.length = n) (hw : Wanted ops f g = true)
    (h : ∀ w1, St w0 w1 (L.set i (box b T (u.map iv))) → Ext (· = b) w w1 → WPL P ro N ops Q rest f ds w1) :
    WPL P ro N ops Q (⟨none, .store t x y, ty, pos, af, g⟩ :: rest) f ds w := by
  have hl := len5 hu
  refine r_storea hS hx hy hi (by rw [hl]; exact hs) (by rw [hl, hc, Nat.zero_add]; rw [Nat.ble_eq]; exact Nat.le_refl n) (by rw [List.all_map, List.all_eq_true]; intro z _; rfl) hw ?_
  intro w1 h1 h2
  have e : spl cs 0 (u.map iv) = u.map iv := by
    unfold spl
    rw [hl, Nat.zero_add, List.drop_of_length_le (by omega)]
    simp
  rw [e] at h1
  exact h w1 h1 h2
theorem r_rem2 {x y : Operand} {n : Nat} {yt : TypeId} (hx : ev f x = .int .i64 (n : Int)) (hy : ev f y = .int .i64 2) (hw : Wanted ops f g = true) (hd : Nat.blt d N = true)
    (h : WPL P ro N ops Q rest (upd f d (.int .i64 ((n % 2 : Nat) : Int))) ds w) : WPL P ro N ops Q (⟨some d, .binOp .rem t x y yt, ty, pos, af, g⟩ :: rest) f ds w :=
  r_rem hx hy hw hd (by decide) (by
    have e : (n : Int).tmod 2 = ((n % 2 : Nat) : Int) := by rw [Int.tmod_eq_emod_of_nonneg (by omega)]; omega
    rw [e]; exact h)
theorem r_quo2 {x y : Operand} {n : Nat} {yt : TypeId} (hx : ev f x = .int .i64 (n : Int)) (hy : ev f y = .int .i64 2) (hn : (n : Int) < 1000000) (hw : Wanted ops f g = true) (hd : Nat.blt d N = true)
    (h : WPL P ro N ops Q rest (upd f d (.int .i64 ((n / 2 : Nat) : Int))) ds w) : WPL P ro N ops Q (⟨some d, .binOp .quo t x y yt, ty, pos, af, g⟩ :: rest) f ds w :=
  r_quo hx hy hw hd (by decide) (by
    have e : IntKind.i64.wrap ((n : Int).tdiv 2) = ((n / 2 : Nat) : Int) := by
      rw [Int.tdiv_eq_ediv_of_nonneg (by omega)]
      have := wrap_in (x := ((n : Int) / 2)) (by omega) (by omega)
      rw [this]; omega
    rw [e]; exact h)
end
end K
end Go.Proofs.YtofpabocpcfbfaaDoor

/- Data: all plans, in order; what they are made from. Conditions: none. -/
namespace Go.Proofs.YtofpabocpcfbfaaDoor
namespace K
open Go
def HBook.okK (b : HBook) (up : Bool) (plan u : List Int) (k : Nat) : Bool :=
  !(decide ((b.hanks.getD k Hank0).at up < u.getD k 0 + b.part plan.length) || (decide ((plan.length % 2 : Nat) = (1 : Int)) && !b.sure ((plan.length / 2 : Nat) : Int) (plan.getD ((plan.length : Int) - 1).toNat 0) k))
/-- All plans that go on from one, in order, and what they cut. -/
def HBook.plansFrom (b : HBook) (up : Bool) : Nat → List Int → List Int → List (List Int × List Int)
  | 0, plan, u => [(plan, u)]
  | r + 1, plan, u => (List.range b.hanks.length).flatMap fun k => bif b.okK up plan u k then HBook.plansFrom b up r (plan ++ [(k : Int)]) (addAt u k (b.part plan.length)) else []
def HBook.plans (b : HBook) (up : Bool) : List (List Int × List Int) := b.plansFrom up (2 * b.horses.length) [] zero5
/-! ### Which blocks a book reads -/
theorem cell_loc {w w' : World} {a : Addr} (h : w'.heap[a.block]? = w.heap[a.block]?) : w'.cell? a = w.cell? a := by
  unfold World.cell?
  simp only [h]
theorem add_block (a : Addr) (n : Nat) : (a.add n).block = a.block := by
  unfold Addr.add
  split <;> rfl
theorem Cells.loc {w w' : World} {a : Addr} {vs : List Value} (h : Cells w a vs) (e : w'.heap[a.block]? = w.heap[a.block]?) : Cells w' a vs := fun i v hi => by
  rw [cell_loc (w := w) (w' := w') (a := a.add i) (by rw [add_block]; exact e)]
  exact h i v hi
theorem cell_lt {w : World} {a : Addr} {v : Value} (h : w.cell? a = some v) : a.block < w.heap.size := by
  rcases Nat.lt_or_ge a.block w.heap.size with h1 | h1
  · exact h1
  · have : w.heap[a.block]? = none := by simp; omega
    unfold World.cell? at h
    simp [this] at h
theorem RdRow.loc {α : Type} {enc : α → List Value} {sz : Nat} {w w' : World} {A : Option Addr} {n : Nat} {xs : List α} (h : RdRow enc sz w A n xs) (e : ∀ a, A = some a → 0 < n → w'.heap[a.block]? = w.heap[a.block]?) : RdRow enc sz w' A n xs :=
  ⟨h.1, h.2.1, fun i x hi => by
    obtain ⟨a, h1, h2⟩ := h.2.2 i x hi
    have hn : 0 < n := by
      have := (List.getElem?_eq_some_iff.1 hi).1
      have := h.1
      omega
    exact ⟨a, h1, h2.loc (by rw [add_block]; exact e a h1 hn)⟩⟩
def bkfp (A1 A2 : Option Addr) (n1 n2 m : Nat) (k : Nat) : Prop := k = 0 ∨ k = m ∨ (∃ a, A1 = some a ∧ 0 < n1 ∧ k = a.block) ∨ ∃ a, A2 = some a ∧ 0 < n2 ∧ k = a.block
theorem Bk.loc {w w' : World} {A1 A2 : Option Addr} {n1 n2 m : Nat} {b : HBook} (h : Bk w A1 A2 n1 n2 m b) (e : ∀ k, bkfp A1 A2 n1 n2 m k → w'.heap[k]? = w.heap[k]?) : Bk w' A1 A2 n1 n2 m b :=
  ⟨h.h1.loc fun a ha hn => e _ (.inr (.inr (.inl ⟨a, ha, hn, rfl⟩))), h.h2.loc fun a ha hn => e _ (.inr (.inr (.inr ⟨a, ha, hn, rfl⟩))), by rw [e m (.inr (.inl rfl))]; exact h.hm, h.good, Cells.loc h.parts (e 0 (.inl rfl))⟩
theorem Bk.lt {w : World} {A1 A2 : Option Addr} {n1 n2 m : Nat} {b : HBook} (h : Bk w A1 A2 n1 n2 m b) {k : Nat} (hk : bkfp A1 A2 n1 n2 m k) : k < w.heap.size := by
  rcases hk with rfl | rfl | ⟨a, ha, hn, rfl⟩ | ⟨a, ha, hn, rfl⟩
  · exact cell_lt (a := ⟨0, 0, none⟩) (h.parts 0 _ rfl)
  · exact (Array.getElem?_eq_some_iff.1 h.hm).1
  · obtain ⟨a', ha', hc⟩ := h.h1.nat (d := Hank0) hn
    rw [ha] at ha'
    cases ha'
    have := cell_lt (hc 0 _ rfl)
    rwa [add_block, add_block] at this
  · obtain ⟨a', ha', hc⟩ := h.h2.nat (d := Horse0) hn
    rw [ha] at ha'
    cases ha'
    have := cell_lt (hc 0 _ rfl)
    rwa [add_block, add_block] at this
abbrev bkl (b : HBook) (A1 A2 : Option Addr) (n1 c1 n2 c2 m : Nat) : List Value := [.slice A1 n1 c1, .slice A2 n2 c2, .int .i64 b.dark, .int .i64 b.near, .int .i64 b.mat, .map (some m)]
/-- What the plans' iterator reads: the book, and its three variables. -/
def datP (b : HBook) (up : Bool) (A1 A2 : Option Addr) (n1 c1 n2 c2 m x3 x4 x5 : Nat) : Item where
  fp k := bkfp A1 A2 n1 n2 m k ∨ k = x3 ∨ k = x4 ∨ k = x5
  ok w := Bk w A1 A2 n1 n2 m b ∧ w.heap[x3]? = some (.cells (bkl b A1 A2 n1 c1 n2 c2 m).toArray 99 (0, 0)) ∧ w.heap[x4]? = some (.cells (List.toArray [.func (.func (bif up then 129 else 128)) #[] #[]]) 109 (0, 0)) ∧ w.heap[x5]? = some (.cells (List.toArray [.func (.func 84) #[.agg (bkl b A1 A2 n1 c1 n2 c2 m).toArray] #[]]) 56 (0, 0))
  loc := by
    rintro w w' h ⟨h1, h2, h3, h4⟩
    exact ⟨h1.loc fun k hk => h k (.inl hk), by rw [h x3 (.inr (.inl rfl))]; exact h2, by rw [h x4 (.inr (.inr (.inl rfl)))]; exact h3, by rw [h x5 (.inr (.inr (.inr rfl)))]; exact h4⟩
/-- What is handed to yield: a plan's memory is given away. -/
def EnP (x : List Int × List Int) (args : List Value) (it : Item) : Prop := ∃ a c, args = [.slice a x.1.length c, .agg (x.2.map iv).toArray] ∧ it = row 3 1 a x.1.length c (x.1.map iv)
abbrev ptr (x : Nat) : Value := .pointer (some ⟨x, 0, none⟩)
/-- Cutting on from a plan, with so many parts left. -/
def CutOk (P : Program) (b : HBook) (up : Bool) (A1 A2 : Option Addr) (n1 c1 n2 c2 m x3 x4 x5 l y4 y5 : Nat) (J Jx : List (List Int × List Int) → (Nat → Prop) → World → Prop) (W : World) (items : List (List Int × List Int)) (r : Nat) : Prop :=
  ∀ (plan u : List Int) (pre : List (List Int × List Int)) (O : Nat → Prop) (w : World) (a : Option Addr) (c : Nat), plan.length + r = 2 * b.horses.length → (∀ x ∈ plan, 0 ≤ x ∧ x < b.hanks.length) → UOk u (30 * plan.length) → (pre ++ b.plansFrom up r plan u) <+: items → J pre O w → (datP b up A1 A2 n1 c1 n2 c2 m x3 x4 x5).ok w →
    w.heap[y4]? = some (.cells (List.toArray [.func (.yield l) #[] #[]]) 166 (0, 0)) → w.heap[y5]? = some (.cells (List.toArray [.func (.func 132) #[] #[ptr x3, ptr y4, ptr x4, ptr x5, ptr y5]]) 166 (0, 0)) → ¬ O y4 → ¬ O y5 → W.heap.size ≤ w.heap.size →
    (row 3 1 a plan.length c (plan.map iv)).ok w → (∀ z, a = some ⟨z, 0, none⟩ → ¬ O z ∧ W.heap.size ≤ z ∧ z < w.heap.size) →
    Cv P 132 #[.slice a plan.length c, .agg (u.map iv).toArray, ptr x3, ptr y4, ptr x4, ptr x5, ptr y5] w (fun v w' => ∃ O' bb, v = .bool bb ∧ Ext (fun z => O z ∨ a = some ⟨z, 0, none⟩) w w' ∧ (∀ z, O' z → O z ∨ w.heap.size ≤ z ∨ a = some ⟨z, 0, none⟩) ∧ (bif bb then J (pre ++ b.plansFrom up r plan u) O' w' else ∃ pre', pre' <+: items ∧ Jx pre' O' w'))
theorem row_rd {w : World} {e c : Nat} {a : Option Addr} {xs : List Int} (h : (row e 1 a xs.length c (xs.map iv)).ok w) (hn : xs.length ≤ 1000) : RdInts w a xs.length xs := by
  have hs := row_src h
  cases a with
  | none =>
    have h0 : xs.map iv = [] := hs
    have : xs = [] := by simpa using h0
    subst this
    exact ⟨rfl, by simp, fun i x hx => by simp at hx⟩
  | some p => exact cells_row hs (by omega)
theorem row_cap {w : World} {e sz n c : Nat} {a : Option Addr} {cs : List Value} (h : (row e sz a n c cs).ok w) : n ≤ c := by
  rcases h.2 with ⟨_, h1, h2, _⟩ | ⟨b, arr, _, _, _, h1, _⟩ <;> omega
section
variable {P : Program} {ro : Option Nat} {N : Nat} {ops : Array Oper} {Q : Post} {f : FV} {ds : List Deferred} {w : World} {rest : List Oper}
variable {d : Nat} {ty : TypeId} {pos : String} {af : Array Edge} {g : Option (Nat × Bool)} {t : TypeId}
theorem r_gtrv {x y : Operand} {k : IntKind} {a b : Int} {v : Bool} {yt : TypeId} (hx : ev f x = .int k a) (hy : ev f y = .int k b) (hv : decide (b < a) = v) (hw : Wanted ops f g = true) (hd : Nat.blt d N = true)
    (h : WPL P ro N ops Q rest (upd f d (.bool v)) ds w) : WPL P ro N ops Q (⟨some d, .binOp .gtr t x y yt, ty, pos, af, g⟩ :: rest) f ds w :=
  r_gtr hx hy hw hd (by subst hv; exact h)
theorem r_eqlv {x y : Operand} {k : IntKind} {a b : Int} {v : Bool} {yt : TypeId} (hx : ev f x = .int k a) (hy : ev f y = .int k b) (hv : decide (a = b) = v) (hw : Wanted ops f g = true) (hd : Nat.blt d N = true)
    (h : WPL P ro N ops Q rest (upd f d (.bool v)) ds w) : WPL P ro N ops Q (⟨some d, .binOp .eql t x y yt, ty, pos, af, g⟩ :: rest) f ds w :=
  r_eql hx hy hw hd (by subst hv; exact h)
end
theorem leave_n {P : Program} {R : Value → World → Prop} {f : FV} {w : World} (h : R (.tuple #[]) w) : retQ P [] R .normal f [] w := ⟨[], trivial, h⟩
theorem ld_hs {P : Program} {w : World} {t : TypeId} {b k : Nat} {T : TypeId} {cs : List Value} {v : Value} (h : w.heap[b]? = some (.cells cs.toArray T (0, 0))) (hk : cs[k]? = some v) (ht : scB P t = true) : Ld P w t ⟨b, k, none⟩ v :=
  ld_sc (by rw [box_cell h, hk]) ht
theorem fm_prefix {β : Type} {G : Nat → List β} {k n : Nat} (h : k ≤ n) : (List.range k).flatMap G <+: (List.range n).flatMap G := by
  obtain ⟨j, rfl⟩ : ∃ j, n = k + j := ⟨n - k, by omega⟩
  rw [List.range_add, List.flatMap_append]
  exact List.prefix_append _ _
theorem fm_succ {β : Type} {G : Nat → List β} {k : Nat} : (List.range (k + 1)).flatMap G = (List.range k).flatMap G ++ G k := by
  rw [List.range_succ, List.flatMap_append]
  simp
/-- A new row of a call that a region has made. -/
def RowN (e sz n : Nat) (cs : List Value) (v : Value) (lo hi : Nat) (w : World) : Prop := ∃ b c, v = .slice (some ⟨b, 0, none⟩) n c ∧ lo ≤ b ∧ b < hi ∧ (row e sz (some ⟨b, 0, none⟩) n c cs).ok w
theorem row_lt {e sz n c b : Nat} {cs : List Value} {w : World} (h : (row e sz (some ⟨b, 0, none⟩) n c cs).ok w) : b < w.heap.size := by
  rcases h.2 with ⟨h5, _⟩ | ⟨b', arr, h5, h6, _⟩
  · cases h5
  · cases h5
    exact (Array.getElem?_eq_some_iff.1 h6).1
theorem rown_mk {e sz n n' c b : Nat} {cs cs' : List Value} {w w1 : World} (h : (row e sz (some ⟨b, 0, none⟩) n' c cs').ok w1) (hn : n' = n) (hc : cs' = cs) (hb : w.heap.size = b) : RowN e sz n cs (.slice (some ⟨b, 0, none⟩) n' c) w.heap.size w1.heap.size w1 := by
  subst hn hc
  exact ⟨b, c, rfl, by omega, row_lt h, h⟩
theorem rown_stays {e sz n : Nat} {cs : List Value} {S : Nat → Prop} {v : Value} {lo hi : Nat} {w w1 w2 : World} (_ : Ext no w w1) (x : Ext S w1 w2) (hs : ∀ b, S b → (b < lo ∨ hi ≤ b) ∧ w.heap.size ≤ b) (h : RowN e sz n cs v lo hi w1) : RowN e sz n cs v lo hi w2 := by
  obtain ⟨b, c, h1, h2, h3, h4⟩ := h
  have hb : b < w1.heap.size := by
    rcases h4.2 with ⟨h5, _⟩ | ⟨b', arr, h5, h6, _⟩
    · cases h5
    · cases h5
      exact (Array.getElem?_eq_some_iff.1 h6).1
  refine ⟨b, c, h1, h2, h3, (row e sz _ n c cs).loc w1 w2 (fun k hk => ?_) h4⟩
  cases hk
  exact x.block b hb (fun y => by have := (hs b y).1; omega)
/-- The world is turned in the iterator's caller's blocks only: what the iterator reads stays. -/
theorem dat_stays {dat : Item} {w w' : World} {O : Nat → Prop} (h : dat.ok w) (e : Ext O w w') (hd : ∀ b, dat.fp b → ¬ O b ∧ b < w.heap.size) : dat.ok w' :=
  dat.loc w w' (fun b hb => e.block b (hd b hb).2 (hd b hb).1) h
end K
end Go.Proofs.YtofpabocpcfbfaaDoor

/- Data: the best plan; ranges over plans. Conditions: none. -/
namespace Go.Proofs.YtofpabocpcfbfaaDoor
namespace K
open Go
def IterV (b : HBook) (up : Bool) (A1 A2 : Option Addr) (n1 c1 n2 c2 m : Nat) (v : Value) (lo hi : Nat) (w : World) : Prop :=
  ∃ x3 x4 x5, v = .func (.func 131) #[] #[ptr x3, ptr x4, ptr x5] ∧ (datP b up A1 A2 n1 c1 n2 c2 m x3 x4 x5).ok w ∧ (lo ≤ x3 ∧ x3 < hi) ∧ (lo ≤ x4 ∧ x4 < hi) ∧ (lo ≤ x5 ∧ x5 < hi)
theorem blk_lt {w : World} {b : Nat} {o : Obj} (h : w.heap[b]? = some o) : b < w.heap.size := (Array.getElem?_eq_some_iff.1 h).1
theorem dat_lt {b : HBook} {up : Bool} {A1 A2 : Option Addr} {n1 c1 n2 c2 m x3 x4 x5 : Nat} {w : World} (h : (datP b up A1 A2 n1 c1 n2 c2 m x3 x4 x5).ok w) {k : Nat} (hk : (datP b up A1 A2 n1 c1 n2 c2 m x3 x4 x5).fp k) : k < w.heap.size := by
  obtain ⟨h1, h2, h3, h4⟩ := h
  rcases hk with hk | rfl | rfl | rfl
  · exact h1.lt hk
  · exact blk_lt h2
  · exact blk_lt h3
  · exact blk_lt h4
theorem iterv_stays {b : HBook} {up : Bool} {A1 A2 : Option Addr} {n1 c1 n2 c2 m : Nat} {w0 ws w1 w2 : World} {S : Nat → Prop} {v : Value} {lo hi : Nat} (hB : Bk w0 A1 A2 n1 n2 m b) (h0 : w0.heap.size ≤ ws.heap.size) (_ : Ext no ws w1) (e : Ext S w1 w2) (hs : ∀ k, S k → (k < lo ∨ hi ≤ k) ∧ ws.heap.size ≤ k) (h : IterV b up A1 A2 n1 c1 n2 c2 m v lo hi w1) : IterV b up A1 A2 n1 c1 n2 c2 m v lo hi w2 := by
  obtain ⟨x3, x4, x5, h1, h2, h3, h4, h5⟩ := h
  refine ⟨x3, x4, x5, h1, (datP b up A1 A2 n1 c1 n2 c2 m x3 x4 x5).loc w1 w2 (fun k hk => e.block k (dat_lt h2 hk) (fun hS => ?_)) h2, h3, h4, h5⟩
  have := hs k hS
  rcases hk with hk | rfl | rfl | rfl
  · have := hB.lt hk; omega
  · omega
  · omega
  · omega
theorem dat_dis {b : HBook} {up : Bool} {A1 A2 : Option Addr} {n1 c1 n2 c2 m x3 x4 x5 : Nat} {w0 ws : World} {L : List Item} (hB : Bk w0 A1 A2 n1 n2 m b) (hS : St (bs w0) ws L) (h3 : ws.heap.size ≤ x3) (h4 : ws.heap.size ≤ x4) (h5 : ws.heap.size ≤ x5) (k : Nat) (hk : fps L k) : ¬ (datP b up A1 A2 n1 c1 n2 c2 m x3 x4 x5).fp k := by
  obtain ⟨x, hx, hxk⟩ := hk
  have := hS.lo x hx k hxk
  have h1 : w0.heap.size ≤ k := this.1
  rintro (hk | rfl | rfl | rfl)
  · have := hB.lt hk; omega
  · omega
  · omega
  · omega
theorem enp_len {x : List Int × List Int} {args : List Value} {it : Item} (h : EnP x args it) : args.length = 2 := by
  obtain ⟨a, c, rfl, rfl⟩ := h
  rfl
theorem pre_mem {α : Type} {pre l : List α} {x : α} (h : (pre ++ [x]) <+: l) : x ∈ l := h.subset (by simp)
/-- All plans: their length, what stands in them, what they cut. -/
theorem HBook.plansFrom_ok {b : HBook} (g : GoodB b) (up : Bool) : ∀ (r : Nat) (plan u : List Int), plan.length + r = 2 * b.horses.length → (∀ x ∈ plan, 0 ≤ x ∧ x < b.hanks.length) → UOk u (30 * plan.length) → ∀ y ∈ b.plansFrom up r plan u, y.1.length = 2 * b.horses.length ∧ (∀ x ∈ y.1, 0 ≤ x ∧ x < b.hanks.length) ∧ UOk y.2 180
  | 0, plan, u, hl, hp, hu, y, hy => by
    simp only [HBook.plansFrom, List.mem_singleton] at hy
    subst hy
    exact ⟨by omega, hp, hu.mono (by have := g.l2; omega)⟩
  | r + 1, plan, u, hl, hp, hu, y, hy => by
    simp only [HBook.plansFrom, List.mem_flatMap, List.mem_range] at hy
    obtain ⟨k, hk, hy⟩ := hy
    cases hok : b.okK up plan u k with
    | false => rw [hok] at hy; simp at hy
    | true =>
      rw [hok] at hy
      simp only [cond_true] at hy
      have h1 := b.part_bd g (n := plan.length) (by omega)
      refine HBook.plansFrom_ok g up r _ _ (by simp; omega) (fun x hx => ?_) ((hu.addAt (k := (k : Int)) (x := b.part plan.length) (by omega)).mono (by simp; omega)) y hy
      rcases List.mem_append.1 hx with hx | hx
      · exact hp x hx
      · cases List.mem_singleton.1 hx; omega
theorem HBook.plans_ok {b : HBook} (g : GoodB b) {up : Bool} {y : List Int × List Int} (h : y ∈ b.plans up) : y.1.length = 2 * b.horses.length ∧ (∀ x ∈ y.1, 0 ≤ x ∧ x < b.hanks.length) ∧ UOk y.2 180 :=
  HBook.plansFrom_ok g up _ _ _ (by simp) (fun x hx => by simp at hx) (UOk.zero (by simp)) y h
def HBook.bestStep (b : HBook) (s : List Int × Int × Bool) (x : List Int × List Int) : List Int × Int × Bool := bif !s.2.2 || decide (b.offOf x.2 true < s.2.1) then (x.1, b.offOf x.2 true, true) else s
def HBook.bestP (b : HBook) : List Int × Int × Bool := (b.plans false).foldl b.bestStep ([], 0, false)
def HBook.best (b : HBook) : Option (List Int) := bif b.bestP.2.2 then some b.bestP.1 else none
def HBook.served (b : HBook) : Bool := !(b.plans false).isEmpty
section
variable {P : Program} {ro : Option Nat} {N : Nat} {Q : Post} {f : FV} {w : World} {R : Value → World → Prop} {B : Base} {L : List Item} {D i : Nat} {rs : List ResultVar}
def EvL (f : FV) : List Operand → List Value → Prop
  | [], [] => True
  | x :: xs, v :: vs => ev f x = v ∧ EvL f xs vs
  | _, _ => False
theorem evl_map {f : FV} : ∀ {xs : List Operand} {vs : List Value}, EvL f xs vs → xs.map (ev f) = vs
  | [], [], _ => rfl
  | x :: xs, v :: vs, h => by rw [List.map_cons, h.1, evl_map h.2]
  | [], _ :: _, h => h.elim
  | _ :: _, [], h => h.elim
theorem r_makeFuncv {P : Program} {ro : Option Nat} {N : Nat} {ops : Array Oper} {Q : Post} {f : FV} {ds : List Deferred} {w : World} {rest : List Oper} {d : Nat} {ty : TypeId} {pos : String} {af : Array Edge} {g : Option (Nat × Bool)}
    {fn : Fn} {l1 l2 : List Operand} {v1 v2 : List Value} (h1 : EvL f l1 v1) (h2 : EvL f l2 v2) (hw : Wanted ops f g = true) (hd : Nat.blt d N = true) (h : WPL P ro N ops Q rest (upd f d (.func fn v1.toArray v2.toArray)) ds w) :
    WPL P ro N ops Q (⟨some d, .makeFunc fn l1.toArray l2.toArray, ty, pos, af, g⟩ :: rest) f ds w :=
  r_makeFunc hw hd (by rw [evl_map h1, evl_map h2]; exact h)
theorem set_at {α : Type} {L : List α} {i : Nat} {x y : α} (h : L[i]? = some x) : (L.set i y)[i]? = some y := by
  have := (List.getElem?_eq_some_iff.1 h).1
  simp [this]
theorem undefer (hS : St B w L) (hi : L[i]? = some (dfr D)) : St B (w.putObj D (.deferred none)) (L.set i (obj D (.deferred none))) :=
  hS.put hi (ext_putObj w D _) (World.putObj_heap_same (blk_lt (hS.get hi)))
theorem retn_d (vs : List Value) (hS : St B w L) (hi : L[i]? = some (dfr D)) (h : ∀ w', St B w' (L.set i (obj D (.deferred none))) → Res P w' f rs vs ∧ R (pack vs) w') : retQ P rs R .normal f [mark D] w :=
  Leaves.mark (hS.get hi) (by obtain ⟨h1, h2⟩ := h _ (undefer hS hi); exact ⟨vs, h1, h2⟩)
theorem ret_d (vs : List Value) (hQ : ∀ f ds w, Q .ret f ds w = Leaves P rs R f ds w) (hS : St B w L) (hi : L[i]? = some (dfr D)) (h : ∀ w', St B w' (L.set i (obj D (.deferred none))) → Res P w' f rs vs ∧ R (pack vs) w') : WP P ro N .ret Q f [mark D] w :=
  ret_m hQ (Leaves.mark (hS.get hi) (by obtain ⟨h1, h2⟩ := h _ (undefer hS hi); exact ⟨vs, h1, h2⟩))
end
end K
end Go.Proofs.YtofpabocpcfbfaaDoor

/- Data: what is asked of a book; what the exported functions return. Conditions: none. -/
namespace Go.Proofs.YtofpabocpcfbfaaDoor
namespace K
open Go
def HBook.ask (b : HBook) (p : Bool) : Int := bif !b.valid then 60 else bif !p then 61 else 0
/-- A map that is there if a number is 0. -/
def mpi (e : Int) (m : Nat) (l : List (List Int × List Int)) : Item where
  fp k := e = 0 ∧ k = m
  ok w := e = 0 → w.heap[m]? = some (mobj l)
  loc := by
    intro w w' h h1 he
    rw [h m ⟨he, rfl⟩]
    exact h1 he
theorem mkBk {w w' : World} {A1 A2 : Option Addr} {n1 n2 m i : Nat} {b : HBook} {L : List Item} (h1 : RdRow Hank.enc 4 w A1 n1 b.hanks) (h2 : RdRow Horse.enc 3 w A2 n2 b.horses) (hP : Parts w) (hg : GoodB b) (hS : St (bs w) w' L) (hi : L[i]? = some (mp m (sh b))) : Bk w' A1 A2 n1 n2 m b :=
  ⟨h1.ext hS.ext, h2.ext hS.ext, hS.get hi, hg, hP.ext hS.ext⟩
theorem mkBi {w w' : World} {A1 A2 : Option Addr} {n1 n2 m i : Nat} {b : HBook} {L : List Item} {e : Int} (h1 : RdRow Hank.enc 4 w A1 n1 b.hanks) (h2 : RdRow Horse.enc 3 w A2 n2 b.horses) (hP : Parts w) (hg : GoodB b) (hS : St (bs w) w' L) (hi : L[i]? = some (mpi e m (sh b))) (he : e = 0) : Bk w' A1 A2 n1 n2 m b :=
  ⟨h1.ext hS.ext, h2.ext hS.ext, hS.get hi he, hg, hP.ext hS.ext⟩
theorem HBook.ask_zero {b : HBook} {p : Bool} (h : b.ask p = 0) : b.valid = true ∧ p = true := by
  unfold HBook.ask at h
  cases hv : b.valid <;> cases hp : p <;> simp_all
section
variable {P : Program} {ro : Option Nat} {N : Nat} {ops : Array Oper} {Q : Post} {f : FV} {ds : List Deferred} {w : World} {rest : List Oper}
variable {d : Nat} {ty : TypeId} {pos : String} {af : Array Edge} {g : Option (Nat × Bool)} {t : TypeId}
theorem r_storel {w0 : Base} {L : List Item} {x y : Operand} {b i n : Nat} {T : TypeId} {cs vs : List Value} (hS : St w0 w L) (hx : ev f x = .pointer (some ⟨b, 0, none⟩)) (hy : ev f y = .agg vs.toArray)
    (hi : L[i]? = some (box b T cs)) (hs : szB P t n = true) (hu : vs.length = n) (ho : vs.all oneC = true) (hc : cs.length = n) (hw : Wanted ops f g = true)
    (h : ∀ w1, St w0 w1 (L.set i (box b T vs)) → Ext (· = b) w w1 → WPL P ro N ops Q rest f ds w1) :
    WPL P ro N ops Q (⟨none, .store t x y, ty, pos, af, g⟩ :: rest) f ds w := by
  refine r_storea hS hx hy hi (by rw [hu]; exact hs) (by rw [hu, hc, Nat.zero_add, Nat.ble_eq]; exact Nat.le_refl n) ho hw ?_
  intro w1 h1 h2
  have e : spl cs 0 vs = vs := by
    unfold spl
    rw [hu, Nat.zero_add, List.drop_of_length_le (by omega)]
    simp
  rw [e] at h1
  exact h w1 h1 h2
theorem r_idxu {x y : Operand} {u : List Int} {n : Nat} {k : Int} (hx : ev f x = .agg (u.map iv).toArray) (hy : ev f y = .int .i64 k) (ht : iaB P t n = true) (hu : u.length = n) (hk : 0 ≤ k ∧ k < n) (hw : Wanted ops f g = true) (hd : Nat.blt d N = true)
    (h : WPL P ro N ops Q rest (upd f d (.int .i64 (u.getD k.toNat 0))) ds w) : WPL P ro N ops Q (⟨some d, .index t x y, ty, pos, af, g⟩ :: rest) f ds w :=
  r_val (v := .int .i64 (u.getD k.toNat 0)) (w' := w) (by
    have : (Instr.index t (.agg (u.map iv).toArray) (.int .i64 k)).run P w = .ok (.int .i64 (u.getD k.toNat 0)) w := by
      unfold iaB at ht
      cases hq : P.underlying t with
      | none => rw [hq] at ht; cases ht
      | some z =>
        rw [hq] at ht
        cases z with
        | array m e =>
          simp only [Bool.and_eq_true] at ht
          obtain ⟨⟨h1, h2⟩, h3⟩ := ht
          have hm := Nat.eq_of_beq_eq_true h1
          subst hm
          unfold Instr.index
          simp only [asIntOf, Sem.run_bind, Sem.run_pure, Result.andThen, run_underlying hq, hk, and_self, if_true, run_info h3, Nat.mul_one]
          have hl : k.toNat < u.length := by omega
          rw [List.getD_eq_getElem?_getD, List.getElem?_eq_getElem hl]
          exact run_part_int h2 u k.toNat _ (List.getElem?_eq_getElem hl) w
        | _ => cases ht
    simp only [execOp, hx, hy, Sem.run_bind, this, Result.andThen, Sem.run_pure]) rfl hw hd h
end
def inB (x : Int) (n : Nat) : Bool := decide (0 ≤ x) && decide (x ≤ (n : Int) - 1)
theorem inB_iff {x : Int} {n : Nat} : inB x n = true ↔ 0 ≤ x ∧ x < n := by
  unfold inB
  simp only [Bool.and_eq_true, decide_eq_true_eq]
  omega
def HBook.dyesP (b : HBook) (i mh th : Int) : Bool := inB i b.horses.length && inB mh b.hanks.length && inB th b.hanks.length
def HBook.dyesE (b : HBook) (i mh th : Int) : Int := bif decide (b.ask (b.dyesP i mh th) = 0) then (bif b.sure i mh th then 0 else 4) else b.ask (b.dyesP i mh th)
def HBook.dyesV (b : HBook) (i mh th : Int) : Int × Int := bif decide (b.dyesE i mh th = 0) then b.dyo i mh th else (0, 0)
def HBook.worksE (b : HBook) (plan : List Int) : Int := b.ask (b.isPlan plan)
def HBook.worksV (b : HBook) (plan : List Int) : Bool := decide (b.worksE plan = 0) && b.works plan
def HBook.offE (b : HBook) (plan : List Int) : Int := b.ask (b.isPlan plan && b.works plan)
def HBook.offV (b : HBook) (plan : List Int) : Sp := bif decide (b.offE plan = 0) then ⟨b.offOf (b.cutOf plan) false, b.offOf (b.cutOf plan) true⟩ else Sp0
def HBook.leftE (b : HBook) (plan : List Int) (h : Int) : Int := b.ask (b.isPlan plan && b.works plan && inB h b.hanks.length)
def HBook.leftV (b : HBook) (plan : List Int) (h : Int) : Sp := bif decide (b.leftE plan h = 0) then ⟨(b.hank h).w.lo - (b.cutOf plan).getD h.toNat 0, (b.hank h).w.hi - (b.cutOf plan).getD h.toNat 0⟩ else Sp0
def HBook.bestE (b : HBook) : Int := bif !b.valid then 60 else bif b.bestP.2.2 then 0 else 4
def HBook.bestV (b : HBook) : List Int := bif decide (b.bestE = 0) then b.bestP.1 else []
theorem HBook.bestFold {b : HBook} : ∀ (l : List (List Int × List Int)) (s : List Int × Int × Bool), (l.foldl b.bestStep s).1 = s.1 ∨ ∃ x ∈ l, (l.foldl b.bestStep s).1 = x.1
  | [], s => .inl rfl
  | x :: l, s => by
    rw [List.foldl_cons]
    rcases HBook.bestFold l (b.bestStep s x) with h | ⟨y, hy, h⟩
    · unfold HBook.bestStep at h
      cases hc : (!s.2.2 || decide (b.offOf x.2 true < s.2.1)) with
      | true => rw [hc] at h; exact .inr ⟨x, by simp, by unfold HBook.bestStep; rw [hc]; exact h⟩
      | false => rw [hc] at h; exact .inl (by unfold HBook.bestStep; rw [hc]; exact h)
    · exact .inr ⟨y, by simp [hy], h⟩
theorem HBook.bestP_len {b : HBook} (g : GoodB b) : b.bestP.1.length ≤ 6 := by
  have g2 := g.l2
  rcases b.bestFold (b.plans false) ([], 0, false) with h | ⟨x, hx, h⟩
  · unfold HBook.bestP; rw [h]; simp
  · have := (b.plans_ok g hx).1
    unfold HBook.bestP; rw [h]; omega
theorem rd_nil {w : World} {a : Option Addr} : RdInts w a 0 [] := ⟨rfl, by simp, fun i x hx => by simp at hx⟩
end K
end Go.Proofs.YtofpabocpcfbfaaDoor

/- Data: a book with a hank more; what must be bought. Conditions: none. -/
namespace Go.Proofs.YtofpabocpcfbfaaDoor
namespace K
open Go
theorem cells_app {w : World} {vs ws : List Value} {a : Addr} (h1 : Cells w a vs) (h2 : Cells w (a.add vs.length) ws) : Cells w a (vs ++ ws) := by
  intro i v hi
  rcases Nat.lt_or_ge i vs.length with h | h
  · rw [List.getElem?_append_left h] at hi
    exact h1 i v hi
  · rw [List.getElem?_append_right h] at hi
    have := h2 _ v hi
    rw [add_add] at this
    rwa [show vs.length + (i - vs.length) = i by omega] at this
theorem cells_flat {α : Type} {enc : α → List Value} {sz : Nat} (hsz : ∀ x, (enc x).length = sz) {w : World} : ∀ (xs : List α) (a : Addr), (∀ (i : Nat) x, xs[i]? = some x → Cells w (a.add (i * sz)) (enc x)) → Cells w a (xs.flatMap enc)
  | [], a, _ => fun i v hi => by simp at hi
  | x :: xs, a, h => by
    rw [List.flatMap_cons]
    have h0 := h 0 x rfl
    rw [Nat.zero_mul, add_zero] at h0
    refine cells_app h0 (cells_flat hsz xs _ fun i y hy => ?_)
    rw [add_add, hsz]
    have := h (i + 1) y (by simpa using hy)
    rwa [show (i + 1) * sz = sz + i * sz by rw [Nat.add_mul]; omega] at this
theorem flat_len {α : Type} {enc : α → List Value} {sz : Nat} (hsz : ∀ x, (enc x).length = sz) : ∀ (xs : List α), (xs.flatMap enc).length = xs.length * sz
  | [] => by simp
  | x :: xs => by rw [List.flatMap_cons, List.length_append, hsz, flat_len hsz xs, List.length_cons, Nat.add_mul]; omega
theorem rd_src {α : Type} {enc : α → List Value} {sz : Nat} (hsz : ∀ x, (enc x).length = sz) {w : World} {A : Option Addr} {n : Nat} {xs : List α} (h : RdRow enc sz w A n xs) : Src w A (xs.flatMap enc) := by
  cases A with
  | none =>
    cases xs with
    | nil => rfl
    | cons x xs => obtain ⟨a, h1, _⟩ := h.2.2 0 x rfl; cases h1
  | some a => exact cells_flat hsz xs a fun i x hi => by obtain ⟨a', h1, h2⟩ := h.2.2 i x hi; cases h1; exact h2
theorem cells_part {w : World} {a : Addr} {vs ws us : List Value} (h : Cells w a (vs ++ ws ++ us)) : Cells w (a.add vs.length) ws := by
  intro i v hi
  rw [add_add]
  refine h _ v ?_
  have hl := (List.getElem?_eq_some_iff.1 hi).1
  rw [List.append_assoc, List.getElem?_append_right (by omega), show vs.length + i - vs.length = i by omega, List.getElem?_append_left hl]
  exact hi
theorem cells_rd {α : Type} {enc : α → List Value} {sz : Nat} (hsz : ∀ x, (enc x).length = sz) {w : World} {a : Addr} {xs : List α} (h : Cells w a (xs.flatMap enc)) (hn : xs.length ≤ 1000) : RdRow enc sz w (some a) xs.length xs :=
  ⟨rfl, by omega, fun i x hi => ⟨a, rfl, by
    have hl := (List.getElem?_eq_some_iff.1 hi).1
    have e : xs = xs.take i ++ [x] ++ xs.drop (i + 1) := by
      have : xs[i] = x := (List.getElem?_eq_some_iff.1 hi).2
      rw [← this, List.take_append_getElem, List.take_append_drop]
    rw [e, List.flatMap_append, List.flatMap_append] at h
    have h1 := cells_part h
    rw [flat_len hsz, List.length_take, Nat.min_eq_left (by omega)] at h1
    simpa using h1⟩⟩
theorem row_rdrow {α : Type} {enc : α → List Value} {sz : Nat} (hsz : ∀ x, (enc x).length = sz) {w : World} {e n c : Nat} {a : Option Addr} {xs : List α} (h : (row e sz a n c (xs.flatMap enc)).ok w) (hn : xs.length = n) (hb : xs.length ≤ 1000) : RdRow enc sz w a n xs := by
  have hs := row_src h
  subst hn
  cases a with
  | none =>
    have h0 : xs.flatMap enc = [] := hs
    have h1 := h.2
    rcases h1 with ⟨_, h2, _⟩ | ⟨b, arr, h2, _⟩
    · have : xs = [] := by simpa using h2
      subst this
      exact ⟨rfl, by simp, fun i x hx => by simp at hx⟩
    · cases h2
  | some p => exact cells_rd hsz hs hb
theorem henc_len (x : Hank) : x.enc.length = 4 := rfl
theorem senc_len (x : Horse) : x.enc.length = 3 := rfl
theorem rown_add {B : Base} {w w' : World} {L : List Item} {e sz n c l h q : Nat} {cs : List Value} (hS : St B w L) (x : Ext no w w') (hb : w.heap.size ≤ l ∧ l ≤ h ∧ h ≤ w'.heap.size) (h1 : l ≤ q) (h2 : q < h) (h3 : (row e sz (some ⟨q, 0, none⟩) n c cs).ok w') : St B w' (L ++ [row e sz (some ⟨q, 0, none⟩) n c cs]) :=
  hS.add x h3 (fun k hk => by cases hk; omega)
theorem dis2 {w0 ws : World} {L : List Item} (hS : St (bs w0) ws L) {i1 i2 ir im e sz n c q m n1 c1 n2 c2 x3 x4 x5 : Nat} {cs : List Value} {l : List (List Int × List Int)} {x1 x2 : Item} {A2 : Option Addr} {hs : List Horse} {y : HBook} {up : Bool} (h1 : L[i1]? = some x1) (h2 : L[i2]? = some x2) (hr : L[ir]? = some (row e sz (some ⟨q, 0, none⟩) n c cs)) (hm : L[im]? = some (mp m l))
    (hd : i1 ≠ ir ∧ i1 ≠ im ∧ i2 ≠ ir ∧ i2 ≠ im) (hA : RdRow Horse.enc 3 w0 A2 n2 hs) (hP : Parts w0) (h3 : ws.heap.size ≤ x3) (h4 : ws.heap.size ≤ x4) (h5 : ws.heap.size ≤ x5) (k : Nat) (hk : fps [x1, x2] k) : ¬ (datP y up (some ⟨q, 0, none⟩) A2 n1 c1 n2 c2 m x3 x4 x5).fp k := by
  have h0 : 0 < w0.heap.size := cell_lt (a := ⟨0, 0, none⟩) (hP 0 _ rfl)
  have key : ∀ (i : Nat) x, L[i]? = some x → i ≠ ir → i ≠ im → x.fp k → ¬ (datP y up (some ⟨q, 0, none⟩) A2 n1 c1 n2 c2 m x3 x4 x5).fp k := by
    intro i x hx hir him hxk
    have hlo := hS.lo x (mem_of_get hx) k hxk
    have hlo1 : w0.heap.size ≤ k := hlo.1
    rintro ((rfl | rfl | ⟨a, ha, _, rfl⟩ | ⟨a, ha, hn, rfl⟩) | rfl | rfl | rfl)
    · omega
    · exact hS.ne hx hm him _ hxk rfl
    · cases ha
      exact hS.ne hx hr hir _ hxk rfl
    · obtain ⟨a', ha', hc⟩ := hA.nat (d := Horse0) hn
      rw [ha] at ha'
      cases ha'
      have := cell_lt (hc 0 _ rfl)
      rw [add_block, add_block] at this
      omega
    · omega
    · omega
    · omega
  obtain ⟨x, hx, hxk⟩ := hk
  rcases List.mem_cons.1 hx with rfl | hx
  · exact key i1 _ h1 hd.1 hd.2.1 hxk
  · cases List.mem_singleton.1 hx
    exact key i2 _ h2 hd.2.2.1 hd.2.2.2 hxk
def EvP (f : FV) : List (Nat × Operand) → List (Nat × Value) → Prop
  | [], [] => True
  | x :: xs, v :: vs => x.1 = v.1 ∧ ev f x.2 = v.2 ∧ EvP f xs vs
  | _, _ => False
theorem evp_map {f : FV} : ∀ {xs : List (Nat × Operand)} {vs : List (Nat × Value)}, EvP f xs vs → xs.map (fun p => (p.1, (ev f p.2).cells.toList)) = vs.map (fun p => (p.1, p.2.cells.toList))
  | [], [], _ => rfl
  | x :: xs, v :: vs, h => by rw [List.map_cons, List.map_cons, h.1, h.2.1, evp_map h.2.2]
  | [], _ :: _, h => h.elim
  | _ :: _, [], h => h.elim
theorem r_buildv {P : Program} {ro : Option Nat} {N : Nat} {ops : Array Oper} {Q : Post} {f : FV} {ds : List Deferred} {w : World} {rest : List Oper} {d : Nat} {ty : TypeId} {pos : String} {af : Array Edge} {g : Option (Nat × Bool)} {t : TypeId}
    {parts : List (Nat × Operand)} {z : Value} {ps : List (Nat × Nat)} {cs : List Value} {vs : List (Nat × Value)} (hz : zeroIs P t z) (hp : plB P t ps = true) (he : EvP f parts vs) (hf : fillG (ps[·]?) z.cells.toList (vs.map fun p => (p.1, p.2.cells.toList)) = some cs)
    (hw : Wanted ops f g = true) (hd : Nat.blt d N = true) (h : WPL P ro N ops Q rest (upd f d (.agg cs.toArray)) ds w) :
    WPL P ro N ops Q (⟨some d, .build t parts.toArray, ty, pos, af, g⟩ :: rest) f ds w :=
  r_build hz hp (by rw [evp_map he]; exact hf) hw hd h
theorem St.pick2 {B : Base} {w : World} {L : List Item} (h : St B w L) {i j : Nat} {x y : Item} (hi : L[i]? = some x) (hj : L[j]? = some y) (hij : i ≠ j) : St B w [x, y] := by
  have hn : nodupB [i, j] = true := by
    simp only [nodupB, Bool.and_true, Bool.not_eq_true', Bool.and_eq_true]
    refine ⟨?_, ?_⟩
    · simpa using hij
    · rfl
  have := h.pick [i, j] hn
  simpa [List.filterMap, hi, hj] using this
theorem St.pick1 {B : Base} {w : World} {L : List Item} (h : St B w L) {i : Nat} {x : Item} (hi : L[i]? = some x) : St B w [x] := by
  have := h.pick [i] rfl
  simpa [List.filterMap, hi] using this
/-- A hank that is bought. -/
def newHank (s : Int) : Hank := ⟨⟨60, 60⟩, ⟨s, s⟩⟩
abbrev HBook.plus (b : HBook) (s : Int) : HBook := { b with hanks := b.hanks ++ [newHank s] }
theorem HBook.plus_good {b : HBook} (g : GoodB b) (h4 : b.hanks.length ≤ 4) {s : Int} (hs : 0 ≤ s ∧ s ≤ 20) : GoodB (b.plus s) :=
  ⟨by simp; omega, g.l2, g.dark, g.near, g.mat, fun h hh => by
    rcases List.mem_append.1 hh with hh | hh
    · exact g.hank h hh
    · cases List.mem_singleton.1 hh
      simp only [newHank]
      omega, g.horse⟩
def HBook.buyN (b : HBook) (s : Int) : Int := ((b.plus s).plans false).foldl (fun n x => min n (x.2.getD b.hanks.length 0)) 61
def shadeB (s : Int) : Bool := decide (0 ≤ s) && decide (s ≤ 20)
def HBook.buyA (b : HBook) (s : Int) : Int := b.ask (shadeB s)
def HBook.buyE (b : HBook) (s : Int) : Int := bif decide (b.buyA s = 0) then (bif b.served then 0 else bif decide (60 < b.buyN s) then 4 else 0) else b.buyA s
def HBook.buyV (b : HBook) (s : Int) : Int := bif decide (b.buyA s = 0) then (bif b.served then 0 else bif decide (60 < b.buyN s) then 0 else b.buyN s) else 0
end K
end Go.Proofs.YtofpabocpcfbfaaDoor

/- Data: whether all can perhaps be served. Conditions: none. -/
namespace Go.Proofs.YtofpabocpcfbfaaDoor
namespace K
open Go
abbrev HBook.of (b : HBook) (hs : List Hank) : HBook := { b with hanks := hs }
def HBook.servedAt (b : HBook) (up : Bool) : Bool := !(b.plans up).isEmpty
def oneHank (h : Hank) (n : Nat) : Hank := ⟨h.w, ⟨h.s.lo + n, h.s.lo + n⟩⟩
def HBook.knownFrom (b : HBook) : Nat → List Hank → Bool
  | 0, hs => (b.of hs).servedAt true
  | r + 1, hs => (List.range ((b.hanks.getD hs.length Hank0).s.hi - (b.hanks.getD hs.length Hank0).s.lo + 1).toNat).any fun n => HBook.knownFrom b r (hs ++ [oneHank (b.hanks.getD hs.length Hank0) n])
def HBook.perhapsE (b : HBook) : Int := b.chk
def HBook.perhapsV (b : HBook) : Bool := b.valid && b.knownFrom b.hanks.length []
abbrev hankGood (h : Hank) : Prop := 1 ≤ h.w.lo ∧ h.w.lo ≤ h.w.hi ∧ h.w.hi ≤ 60 ∧ 0 ≤ h.s.lo ∧ h.s.lo ≤ h.s.hi ∧ h.s.hi ≤ 20
theorem GoodB.of {b : HBook} (g : GoodB b) {hs : List Hank} (hl : hs.length ≤ 5) (h : ∀ x ∈ hs, hankGood x) : GoodB (b.of hs) := ⟨hl, g.l2, g.dark, g.near, g.mat, h, g.horse⟩
theorem dis1 {w0 ws : World} {L : List Item} (hS : St (bs w0) ws L) {i1 im m n1 c1 n2 c2 x3 x4 x5 : Nat} {l : List (List Int × List Int)} {x1 : Item} {A1 A2 : Option Addr} {ks : List Hank} {hs : List Horse} {y : HBook} {up : Bool} (h1 : L[i1]? = some x1) (hm : L[im]? = some (mp m l))
    (hd : i1 ≠ im) (hK : RdRow Hank.enc 4 w0 A1 n1 ks) (hA : RdRow Horse.enc 3 w0 A2 n2 hs) (hP : Parts w0) (h3 : ws.heap.size ≤ x3) (h4 : ws.heap.size ≤ x4) (h5 : ws.heap.size ≤ x5) (k : Nat) (hk : fps [x1] k) : ¬ (datP y up A1 A2 n1 c1 n2 c2 m x3 x4 x5).fp k := by
  have h0 : 0 < w0.heap.size := cell_lt (a := ⟨0, 0, none⟩) (hP 0 _ rfl)
  obtain ⟨x, hx, hxk⟩ := hk
  cases List.mem_singleton.1 hx
  have hlo := hS.lo _ (mem_of_get h1) k hxk
  have hlo1 : w0.heap.size ≤ k := hlo.1
  rintro ((rfl | rfl | ⟨a, ha, hn, rfl⟩ | ⟨a, ha, hn, rfl⟩) | rfl | rfl | rfl)
  · omega
  · exact hS.ne h1 hm hd _ hxk rfl
  · obtain ⟨a', ha', hc⟩ := hK.nat (d := Hank0) hn
    rw [ha] at ha'
    cases ha'
    have := cell_lt (hc 0 _ rfl)
    rw [add_block, add_block] at this
    omega
  · obtain ⟨a', ha', hc⟩ := hA.nat (d := Horse0) hn
    rw [ha] at ha'
    cases ha'
    have := cell_lt (hc 0 _ rfl)
    rw [add_block, add_block] at this
    omega
  · omega
  · omega
  · omega
theorem any_succ {p : Nat → Bool} {n : Nat} : (List.range (n + 1)).any p = ((List.range n).any p || p n) := by
  rw [List.range_succ, List.any_append]
  simp
theorem any_true {p : Nat → Bool} {n k : Nat} (h : p k = true) (hk : k < n) : (List.range n).any p = true := List.any_eq_true.2 ⟨k, List.mem_range.2 hk, h⟩
/-- The call of 'known', with so many hanks left. -/
def KnownOk (P : Program) (b : HBook) (A1 A2 : Option Addr) (n1 c1 n2 c2 q1 q2 : Nat) (r : Nat) : Prop :=
  ∀ (hs : List Hank) (Ah : Option Addr) (ch : Nat) (w : World), hs.length + r = b.hanks.length → (∀ x ∈ hs, hankGood x) → RdRow Hank.enc 4 w Ah hs.length hs → hs.length ≤ ch → RdRow Hank.enc 4 w A1 n1 b.hanks → RdRow Horse.enc 3 w A2 n2 b.horses → Parts w →
    w.heap[q1]? = some (.cells (List.toArray [.slice A1 n1 c1, .slice A2 n2 c2, .int .i64 b.dark, .int .i64 b.near, .int .i64 b.mat]) 25 (0, 0)) → w.heap[q2]? = some (.cells (List.toArray [.func (.func 86) #[] #[ptr q1, ptr q2]]) 120 (0, 0)) →
    Cv P 86 #[.slice Ah hs.length ch, ptr q1, ptr q2] w (fun v w' => v = .bool (b.knownFrom r hs) ∧ Ext no w w')
end K
end Go.Proofs.YtofpabocpcfbfaaDoor

/- Shifts and bits; sets of horses. Conditions: none. -/
namespace Go.Proofs.YtofpabocpcfbfaaDoor
namespace K
open Go
theorem and1_64 (a : Nat) (h : a < 1000000) : (BitVec.ofInt 64 (a : Int) &&& BitVec.ofInt 64 1).toNat = a % 2 := by
  rw [BitVec.toNat_and]
  have e1 : (BitVec.ofInt 64 (a : Int)).toNat = a := by
    rw [BitVec.toNat_ofInt]
    omega
  have e2 : (BitVec.ofInt 64 1).toNat = 1 := by decide
  rw [e1, e2]
  exact Nat.and_one_is_mod a
section
variable {P : Program} {ro : Option Nat} {N : Nat} {ops : Array Oper} {Q : Post} {f : FV} {ds : List Deferred} {w : World} {rest : List Oper}
variable {d : Nat} {ty : TypeId} {pos : String} {af : Array Edge} {g : Option (Nat × Bool)} {t : TypeId}
theorem run_sh {op : BinOp} {x y : Operand} {a b : Int} {v : Value} {yt : TypeId} (hop : op = .shl ∨ op = .shr) (hx : ev f x = .int .i64 a) (hy : ev f y = .int .i64 b) (hv : Op.shift op .i64 a .i64 b = pure v) :
    (execOp (ev f) ⟨some d, .binOp op t x y yt, ty, pos, af, g⟩).run P w = .ok (.value v) w := by
  rcases hop with rfl | rfl
  · have hg : eqGuard .shl t x y (.int .i64 a) (.int .i64 b) = pure () := rfl
    have hb : binOp .shl t (.int .i64 a) (.int .i64 b) = pure v := by rw [← hv]; rfl
    simp only [execOp, hx, hy, Sem.run_bind, hg, hb, Result.andThen, Sem.run_pure]
  · have hg : eqGuard .shr t x y (.int .i64 a) (.int .i64 b) = pure () := rfl
    have hb : binOp .shr t (.int .i64 a) (.int .i64 b) = pure v := by rw [← hv]; rfl
    simp only [execOp, hx, hy, Sem.run_bind, hg, hb, Result.andThen, Sem.run_pure]
theorem r_shl1 {x y : Operand} {n : Nat} {yt : TypeId} (hx : ev f x = .int .i64 1) (hy : ev f y = .int .i64 (n : Int)) (hn : n ≤ 30) (hw : Wanted ops f g = true) (hd : Nat.blt d N = true)
    (h : WPL P ro N ops Q rest (upd f d (.int .i64 ((2 ^ n : Nat) : Int))) ds w) : WPL P ro N ops Q (⟨some d, .binOp .shl t x y yt, ty, pos, af, g⟩ :: rest) f ds w :=
  r_val (run_sh (.inl rfl) hx hy (v := .int .i64 ((2 ^ n : Nat) : Int)) (by
    rw [shift_shl .i64 .i64 1 n (by omega) (by simp only [IntKind.bits]; omega)]
    have h1 : (1 : Int) * 2 ^ ((n : Int)).toNat = ((2 ^ n : Nat) : Int) := by simp
    have h2 : 2 ^ n ≤ 1073741824 := Nat.le_trans (Nat.pow_le_pow_right (by decide) hn) (by decide)
    rw [h1]
    generalize 2 ^ n = q at h2 ⊢
    rw [wrap_in (by omega) (by omega)])) rfl hw hd h
theorem r_shrn {x y : Operand} {a n : Nat} {yt : TypeId} (hx : ev f x = .int .i64 (a : Int)) (hy : ev f y = .int .i64 (n : Int)) (hn : n ≤ 60) (hw : Wanted ops f g = true) (hd : Nat.blt d N = true)
    (h : WPL P ro N ops Q rest (upd f d (.int .i64 ((a / 2 ^ n : Nat) : Int))) ds w) : WPL P ro N ops Q (⟨some d, .binOp .shr t x y yt, ty, pos, af, g⟩ :: rest) f ds w :=
  r_val (run_sh (.inr rfl) hx hy (v := .int .i64 ((a / 2 ^ n : Nat) : Int)) (by
    rw [shift_shr .i64 .i64 a n (by omega) (by simp only [IntKind.bits]; omega)]
    simp)) rfl hw hd h
theorem r_and1 {x y : Operand} {a : Nat} {yt : TypeId} (hx : ev f x = .int .i64 (a : Int)) (hy : ev f y = .int .i64 1) (ha : a < 1000000) (hw : Wanted ops f g = true) (hd : Nat.blt d N = true)
    (h : WPL P ro N ops Q rest (upd f d (.int .i64 ((a % 2 : Nat) : Int))) ds w) : WPL P ro N ops Q (⟨some d, .binOp .and t x y yt, ty, pos, af, g⟩ :: rest) f ds w :=
  r_val (run_bin hx hy rfl (v := .int .i64 ((a % 2 : Nat) : Int)) (by
    have h0 : bits .and .i64 (a : Int) 1 = ((a % 2 : Nat) : Int) := by
      unfold bits
      have h1 : (BitVec.ofInt IntKind.i64.bits (a : Int) &&& BitVec.ofInt IntKind.i64.bits 1).toNat = a % 2 := and1_64 a ha
      simp only [h1]
      exact wrap_in (by omega) (by omega)
    show (Op.intBits .and .i64 (a : Int) 1).run P w = _
    rw [intBits_and, h0]
    simp)) rfl hw hd h
end
def bitB (set k : Nat) : Bool := (set / 2 ^ k) % 2 == 1
/-- The horses of a set, below a number; the others. -/
def outTo (set k : Nat) : List Int := ((List.range k).filter (bitB set)).map fun (i : Nat) => (i : Int)
def restTo (hs : List Horse) (set k : Nat) : List Horse := ((List.range k).filter fun i => !bitB set i).map fun i => hs.getD i Horse0
theorem outTo_succ {set k : Nat} : outTo set (k + 1) = bif bitB set k then outTo set k ++ [(k : Int)] else outTo set k := by
  unfold outTo
  rw [List.range_succ, List.filter_append]
  cases h : bitB set k <;> simp [List.filter, h]
theorem restTo_succ {hs : List Horse} {set k : Nat} : restTo hs set (k + 1) = bif bitB set k then restTo hs set k else restTo hs set k ++ [hs.getD k Horse0] := by
  unfold restTo
  rw [List.range_succ, List.filter_append]
  cases h : bitB set k <;> simp [List.filter, h]
/-- Comparing of lists. -/
def cmpL : List Int → List Int → Int
  | [], [] => 0
  | [], _ :: _ => -1
  | _ :: _, [] => 1
  | x :: xs, y :: ys => if x < y then -1 else if y < x then 1 else cmpL xs ys
def cmpE (x y : Int) : Int := if x < y then -1 else if y < x then 1 else 0
theorem cmpL_cons {x y : Int} {xs ys : List Int} : cmpL (x :: xs) (y :: ys) = if cmpE x y = 0 then cmpL xs ys else cmpE x y := by
  rw [cmpL]
  unfold cmpE
  by_cases h : x < y
  · simp [h]
  · by_cases h2 : y < x
    · simp [h, h2]
    · simp [h, h2]
theorem drop_get {xs : List Int} {k : Nat} (h : k < xs.length) : xs.drop k = xs.getD k 0 :: xs.drop (k + 1) := by
  rw [List.drop_eq_getElem_cons h, List.getD_eq_getElem?_getD, List.getElem?_eq_getElem h]
  rfl
abbrev HBook.horsesOf (b : HBook) (hs : List Horse) : HBook := { b with horses := hs }
def HBook.lackStep (b : HBook) (s : List Int × Bool) (set : Nat) : List Int × Bool :=
  let o := outTo set b.horses.length
  bif s.2 && (decide (s.1.length < o.length) || (decide (o.length = s.1.length) && decide (0 ≤ cmpL o s.1))) then s
  else bif (b.horsesOf (restTo b.horses set b.horses.length)).served then (o, true) else s
def HBook.lackTo (b : HBook) (n : Nat) : List Int × Bool := (List.range n).foldl b.lackStep ([], false)
def HBook.lacksV (b : HBook) : List Int := bif b.valid then (b.lackTo (2 ^ b.horses.length)).1 else []
theorem HBook.lackTo_succ {b : HBook} {n : Nat} : b.lackTo (n + 1) = b.lackStep (b.lackTo n) n := by
  unfold HBook.lackTo
  rw [List.range_succ, List.foldl_append]
  rfl
theorem outTo_len {set k : Nat} : (outTo set k).length ≤ k := by
  unfold outTo
  rw [List.length_map]
  exact Nat.le_trans (List.length_filter_le _ _) (by simp)
theorem restTo_len {hs : List Horse} {set k : Nat} : (restTo hs set k).length ≤ k := by
  unfold restTo
  rw [List.length_map]
  exact Nat.le_trans (List.length_filter_le _ _) (by simp)
theorem rest_good {b : HBook} (g : GoodB b) {set k : Nat} (hk : k ≤ b.horses.length) : GoodB (b.horsesOf (restTo b.horses set k)) :=
  ⟨g.l1, Nat.le_trans restTo_len (Nat.le_trans hk g.l2), g.dark, g.near, g.mat, g.hank, fun x hx => by
    obtain ⟨i, hi, rfl⟩ := List.mem_map.1 hx
    have := List.mem_range.1 (List.mem_filter.1 hi).1
    exact g.horse _ (getD_mem (by omega))⟩
theorem lackTo_len {b : HBook} : ∀ {n : Nat}, (b.lackTo n).1.length ≤ b.horses.length
  | 0 => Nat.zero_le _
  | n + 1 => by
    rw [HBook.lackTo_succ]
    have ih := lackTo_len (b := b) (n := n)
    unfold HBook.lackStep
    simp only
    generalize ((b.lackTo n).2 && _) = C
    cases C
    · cases (b.horsesOf (restTo b.horses n b.horses.length)).served
      · exact ih
      · exact outTo_len
    · exact ih
end K
end Go.Proofs.YtofpabocpcfbfaaDoor

/- What the helpers of the statements compute. Conditions: none. -/
namespace Go.Proofs.YtofpabocpcfbfaaDoor
namespace K
open Go
def roundI (n many : Int) : Int := if many < 1 then 0 else n % many
theorem tmod_facts {n m : Int} (h : ¬ m < 1) : -m < n.tmod m ∧ n.tmod m < m ∧ (n.tmod m < 0 → n.tmod m + m = n % m) ∧ (0 ≤ n.tmod m → n.tmod m = n % m) := by
  have h0 : 0 < m := by omega
  have e1 := Int.tmod_lt_of_pos n h0
  have e3 : n % m < m := Int.emod_lt_of_pos n h0
  have e4 : 0 ≤ n % m := Int.emod_nonneg n (by omega)
  have key : n.tmod m = if 0 ≤ n ∨ m ∣ n then n % m else n % m - m := by
    rw [Int.tmod_eq_emod]
    have : (m.natAbs : Int) = m := by omega
    split <;> simp_all
  rw [key]
  split <;> omega
theorem roundI_bd {n m : Int} (h : 1 ≤ m) : 0 ≤ roundI n m ∧ roundI n m < m := by
  unfold roundI
  rw [if_neg (by omega)]
  exact ⟨Int.emod_nonneg n (by omega), Int.emod_lt_of_pos n (by omega)⟩
def takeI (l : List Int) (n : Int) : Int := bif decide (l.length = 0) then 0 else l.getD (roundI n l.length).toNat 0
def eqTo (xs ys : List Int) (k : Nat) : Bool := decide (xs.length = ys.length) && decide (xs.take k = ys.take k)
theorem take_get {xs : List Int} {k : Nat} (h : k < xs.length) : xs.take (k + 1) = xs.take k ++ [xs.getD k 0] := by
  rw [List.take_add_one, List.getD_eq_getElem?_getD, List.getElem?_eq_getElem h]
  rfl
theorem eqTo_succ {xs ys : List Int} {k : Nat} (h : eqTo xs ys k = true) (hk : k < xs.length) : eqTo xs ys (k + 1) = decide (xs.getD k 0 = ys.getD k 0) := by
  unfold eqTo at h ⊢
  simp only [Bool.and_eq_true, decide_eq_true_eq] at h
  rw [take_get hk, take_get (xs := ys) (by omega), h.2]
  simp [h.1]
theorem eqTo_end {xs ys : List Int} {k : Nat} (h : eqTo xs ys k = true) (hk : xs.length ≤ k) : decide (xs = ys) = true := by
  unfold eqTo at h
  simp only [Bool.and_eq_true, decide_eq_true_eq] at h
  rw [List.take_of_length_le hk, List.take_of_length_le (by omega)] at h
  exact decide_eq_true h.2
theorem eqTo_no {xs ys : List Int} {k : Nat} (h : eqTo xs ys k = false) : decide (xs = ys) = false := by
  refine decide_eq_false fun e => ?_
  subst e
  simp [eqTo] at h
def sumTo (xs : List Int) (k : Nat) : Int := (xs.take k).foldl (· + ·) 0
theorem sumTo_succ {xs : List Int} {k : Nat} (h : k < xs.length) : sumTo xs (k + 1) = sumTo xs k + xs.getD k 0 := by
  unfold sumTo
  rw [take_get h, List.foldl_append]
  rfl
theorem sumTo_bd {xs : List Int} {B : Int} (hb : ∀ x ∈ xs, 0 ≤ x ∧ x ≤ B) : ∀ {k : Nat}, k ≤ xs.length → 0 ≤ sumTo xs k ∧ sumTo xs k ≤ B * k
  | 0, _ => by simp [sumTo]
  | k + 1, h => by
    have h1 := sumTo_bd hb (k := k) (by omega)
    have h2 := hb _ (getD_mem (d := 0) (k := k) (by omega))
    rw [sumTo_succ (by omega)]
    have : B * ((k + 1 : Nat) : Int) = B * k + B := by rw [Int.natCast_add, Int.mul_add]; simp
    omega
end K
end Go.Proofs.YtofpabocpcfbfaaDoor

/- 'x[:h]', make of a slice of ints; the chapter's books. Conditions: none. -/
namespace Go.Proofs.YtofpabocpcfbfaaDoor
namespace K
open Go
section
variable {P : Program} {ro : Option Nat} {N : Nat} {ops : Array Oper} {Q : Post} {f : FV} {ds : List Deferred} {w : World} {rest : List Oper}
variable {d : Nat} {ty : TypeId} {pos : String} {af : Array Edge} {g : Option (Nat × Bool)} {t : TypeId}
theorem r_slice2 {x yh : Operand} {a : Option Addr} {n c sz : Nat} {k1 : IntKind} {h' : Int} (hx : ev f x = .slice a n c) (hh : ev f yh = .int k1 h') (ht : slB P t sz = true)
    (hb : 0 ≤ h' ∧ h' ≤ c) (hw : Wanted ops f g = true) (hd : Nat.blt d N = true) (h : WPL P ro N ops Q rest (upd f d (.slice a h'.toNat c)) ds w) :
    WPL P ro N ops Q (⟨some d, .slice t x none (some yh) none, ty, pos, af, g⟩ :: rest) f ds w :=
  r_val (v := .slice a h'.toNat c) (w' := w) (by
    have : (Instr.slice t (.slice a n c) none (some (.int k1 h')) none).run P w = .ok (.slice a h'.toNat c) w := by
      unfold slB at ht
      cases hu : P.underlying t with
      | none => rw [hu] at ht; cases ht
      | some u =>
        rw [hu] at ht
        cases u with
        | slice e =>
          simp only at ht
          unfold Instr.slice
          rw [Sem.run_bind, run_underlying hu]
          have h2 : 0 ≤ h' ∧ h' ≤ (c : Int) := hb
          simp only [Result.andThen, Instr.sliceBounds, Instr.sliceBound, asIntOf, Sem.run_bind, Sem.run_pure, h2, and_self, if_true, run_info ht, Nat.zero_mul, Nat.sub_zero]
          cases a <;> simp [add_zero]
        | _ => cases ht
    have h3 : (Instr.sliceAt t (.slice a n c) none (some (.int k1 h')) none).run P w = .ok (.slice a h'.toNat c) w := by
      rw [← this]
      unfold slB at ht
      cases hu : P.underlying t with
      | none => rw [hu] at ht; cases ht
      | some u =>
        rw [hu] at ht
        cases u with
        | slice e => unfold Instr.sliceAt; rw [Sem.run_bind, run_underlying hu]; rfl
        | _ => cases ht
    simp only [execOp, Sem.run_bind, hx, hh, Option.map_some, Option.map_none, h3]
    rfl) rfl hw hd h
end
def ownHanks : List Hank := [⟨⟨10, 11⟩, ⟨4, 5⟩⟩, ⟨⟨8, 9⟩, ⟨6, 6⟩⟩, ⟨⟨20, 22⟩, ⟨3, 3⟩⟩]
def shortHanks : List Hank := [⟨⟨10, 11⟩, ⟨4, 5⟩⟩, ⟨⟨7, 8⟩, ⟨6, 6⟩⟩, ⟨⟨20, 22⟩, ⟨3, 3⟩⟩]
def ownHorses : List Horse := [⟨6, 4, 6⟩, ⟨5, 3, 7⟩]
def ownB : HBook := ⟨ownHanks, ownHorses, 2, 1, 1⟩
def shortB : HBook := ⟨shortHanks, ownHorses, 2, 1, 1⟩
def poorB : HBook := ⟨shortHanks.take 2, ownHorses, 2, 1, 1⟩
/-- A book in new memory, that belongs to who asked for it. -/
def NewBook (hs : List Hank) (n : Nat) (w : World) (v : Value) (w' : World) : Prop :=
  ∃ p1 p2, v = .agg #[.slice (some ⟨p1, 0, none⟩) n 3, .slice (some ⟨p2, 0, none⟩) 2 2, .int .i64 2, .int .i64 1, .int .i64 1] ∧ Ext no w w' ∧ w'.heap[p1]? = some (.cells (hs.flatMap Hank.enc).toArray 42 (0, 0)) ∧ w'.heap[p2]? = some (.cells (ownHorses.flatMap Horse.enc).toArray 65 (0, 0)) ∧ (w.heap.size ≤ p1 ∧ p1 < w'.heap.size) ∧ (w.heap.size ≤ p2 ∧ p2 < w'.heap.size) ∧ p1 ≠ p2
theorem NewBook.add {B : Base} {hs : List Hank} {w w' : World} {L : List Item} (hS : St B w L) {p1 p2 : Nat} (hE : Ext no w w') (h1 : w'.heap[p1]? = some (.cells (hs.flatMap Hank.enc).toArray 42 (0, 0))) (h2 : w'.heap[p2]? = some (.cells (ownHorses.flatMap Horse.enc).toArray 65 (0, 0))) (h3 : w.heap.size ≤ p1 ∧ p1 < w'.heap.size) (h4 : w.heap.size ≤ p2 ∧ p2 < w'.heap.size) (hne : p1 ≠ p2) : St B w' (L ++ [box p1 42 (hs.flatMap Hank.enc), box p2 65 (ownHorses.flatMap Horse.enc)]) :=
  hS.adds hE _ (fun x hx => by
    rcases List.mem_cons.1 hx with rfl | hx
    · exact ⟨h1, fun k hk => by cases hk; exact h3⟩
    · cases List.mem_singleton.1 hx
      exact ⟨h2, fun k hk => by cases hk; exact h4⟩) (List.pairwise_cons.2 ⟨fun x hx k hk1 hk2 => by
        cases List.mem_singleton.1 hx
        cases hk1; cases hk2; exact hne rfl, List.pairwise_singleton _ _⟩)
end K
end Go.Proofs.YtofpabocpcfbfaaDoor

/- What is so of the chapter's books. Conditions: none. -/
namespace Go.Proofs.YtofpabocpcfbfaaDoor
namespace K
open Go
theorem nb_h {w : World} {p : Nat} {hs : List Hank} (h : w.heap[p]? = some (.cells (hs.flatMap Hank.enc).toArray 42 (0, 0))) (hn : hs.length ≤ 1000) : RdRow Hank.enc 4 w (some ⟨p, 0, none⟩) hs.length hs := cells_rd henc_len (by simpa using box_cells h 0) hn
theorem nb_x {w : World} {p : Nat} {hs : List Horse} (h : w.heap[p]? = some (.cells (hs.flatMap Horse.enc).toArray 65 (0, 0))) (hn : hs.length ≤ 1000) : RdRow Horse.enc 3 w (some ⟨p, 0, none⟩) hs.length hs := cells_rd senc_len (by simpa using box_cells h 0) hn
theorem RdRow.take {α : Type} {enc : α → List Value} {sz : Nat} {w : World} {A : Option Addr} {n : Nat} {xs : List α} (h : RdRow enc sz w A n xs) {m : Nat} (hm : m ≤ n) : RdRow enc sz w A m (xs.take m) :=
  ⟨by rw [List.length_take, h.1]; omega, by have := h.2.1; omega, fun i x hi => by
    rw [List.getElem?_take] at hi
    split at hi
    · exact h.2.2 i x hi
    · cases hi⟩
def noSt : List Spc → Bool
  | [] => true
  | .st _ _ :: _ => false
  | _ :: l => noSt l
theorem noSt_turns : ∀ (ss : List Spc) (i : Nat), noSt ss = true → turns ss i = none
  | [], i, _ => by simp [turns]
  | .st _ _ :: l, i, h => by cases h
  | .val v :: l, 0, h => rfl
  | .ex φ :: l, 0, h => rfl
  | .val v :: l, i + 1, h => by
    have := noSt_turns l i h
    simpa [turns] using this
  | .ex φ :: l, i + 1, h => by
    have := noSt_turns l i h
    simpa [turns] using this
theorem conB_noSt {ops : List Oper} {ss : List Spc} {m : Nat} (h : noSt ss = true) : conB ops ss m = true := by
  unfold conB
  rw [List.all_eq_true]
  intro i _
  rw [noSt_turns ss i h]
theorem e37 : ownB.dyesV 0 1 2 = (0, 2) ∧ ownB.dyesE 0 1 2 = 0 := by decide +kernel
theorem e18 : ownB.worksV [2, 2, 1, 1] = true ∧ ownB.worksE [2, 2, 1, 1] = 0 := by decide +kernel
theorem e19 : ownB.offV [2, 2, 1, 1] = ⟨10, 13⟩ ∧ ownB.offE [2, 2, 1, 1] = 0 := by decide +kernel
theorem e20 : ownB.leftV [0, 0, 1, 1] 0 = ⟨0, 1⟩ ∧ ownB.leftE [0, 0, 1, 1] 0 = 0 := by decide +kernel
theorem e26 : shortB.bestV = [2, 2, 0, 0] ∧ shortB.bestE = 0 := by decide +kernel
theorem e27 : poorB.lacksV = [0] ∧ poorB.chk = 0 := by decide +kernel
theorem e33 : poorB.buyV 6 = 3 ∧ poorB.buyE 6 = 0 := by decide +kernel
theorem e36 : poorB.perhapsV = true ∧ poorB.perhapsE = 0 := by decide +kernel
end K
end Go.Proofs.YtofpabocpcfbfaaDoor

/- What the laws draw, and spend. Conditions: none. -/
namespace Go.Proofs.YtofpabocpcfbfaaDoor
namespace K
open Go
section
variable {P : Program} {ro : Option Nat} {N : Nat} {ops : Array Oper} {Q : Post} {f : FV} {ds : List Deferred} {w : World} {rest : List Oper}
variable {d : Nat} {ty : TypeId} {pos : String} {af : Array Edge} {g : Option (Nat × Bool)} {t : TypeId}
theorem r_leqv {x y : Operand} {k : IntKind} {a b : Int} {v : Bool} {yt : TypeId} (hx : ev f x = .int k a) (hy : ev f y = .int k b) (hv : decide (a ≤ b) = v) (hw : Wanted ops f g = true) (hd : Nat.blt d N = true)
    (h : WPL P ro N ops Q rest (upd f d (.bool v)) ds w) : WPL P ro N ops Q (⟨some d, .binOp .leq t x y yt, ty, pos, af, g⟩ :: rest) f ds w :=
  r_leq hx hy hw hd (by subst hv; exact h)
theorem run_makeInts {e n : Nat} (hT : P.underlying t = some (.slice e)) (hs : szB P e 1 = true) (hB : byB P e 8 = true) (hz : zeroIs P e (.int .i64 0)) (hn : n ≤ 1000) :
    (Instr.makeSlice t (.int .i64 (n : Int)) (.int .i64 (n : Int))).run P w = .ok (.slice (some ⟨w.heap.size, 0, none⟩) n n) (w.alloc (.cells ((List.replicate n (0 : Int)).map iv).toArray e (0, 0))) := by
  obtain ⟨i, hi, hib⟩ := run_typeInfo_bytes hB
  have hw : IntKind.i64.wrap (n : Int) = n := wrap_in (by omega) (by omega)
  have hl : ¬ ((n : Int) < 0) := by omega
  have hb : ¬ (((8 : Nat) : Int) * (n : Int) > 2 ^ 48) := by omega
  have ha : (asInt (.int .i64 (n : Int))).run P w = .ok (n : Int) w := by simp [asInt, asIntOf, Result.andThen]
  unfold Instr.makeSlice
  rw [Sem.run_bind, run_underlying hT]
  simp only [Result.andThen, ha, Sem.run_bind, Sem.run_pure, hi, hib, hw, hl, hb, decide_false, Bool.or_false, Bool.false_eq_true, if_false, gt_iff_lt, Int.lt_irrefl, run_askRoom, run_info hs, Nat.mul_one, Int.toNat_natCast]
  by_cases h0 : n = 0
  · subst h0
    simp [newRow, newObj, Sem.run, Result.andThen]
    have h1 : Array.range 0 = #[] := by apply Array.ext'; simp
    rw [h1]
    simp
  · simp only [h0, if_false, Sem.run_bind, run_zero hz, Result.andThen, Sem.run_pure, newRow, newObj, Sem.run]
    have hc : (Array.map (fun x => (Value.int IntKind.i64 0).cells[x % (Value.int IntKind.i64 0).cells.size]!) (Array.range n)) = (List.map iv (List.replicate n 0)).toArray := by
      have h1 : ∀ x : Nat, (Value.int IntKind.i64 0).cells[x % (Value.int IntKind.i64 0).cells.size]! = Value.int .i64 0 := fun x => by simp [Value.cells, Nat.mod_one]
      simp only [h1]
      apply Array.ext'
      simp [List.map_const']
    rw [hc]
    rfl
theorem r_makeInts {w0 : Base} {L : List Item} {x y : Operand} {e n : Nat} (hS : St w0 w L) (hx : ev f x = .int .i64 (n : Int)) (hy : ev f y = .int .i64 (n : Int)) (hT : P.underlying t = some (.slice e)) (hs : szB P e 1 = true) (hB : byB P e 8 = true) (hz : zeroIs P e (.int .i64 0)) (hn : n ≤ 1000) (hw : Wanted ops f g = true) (hd : Nat.blt d N = true)
    (h : ∀ b w1, St w0 w1 (L ++ [box b e ((List.replicate n (0 : Int)).map iv)]) → Ext no w w1 → w.heap.size = b → WPL P ro N ops Q rest (upd f d (.slice (some ⟨b, 0, none⟩) n n)) ds w1) :
    WPL P ro N ops Q (⟨some d, .makeSlice t x y, ty, pos, af, g⟩ :: rest) f ds w :=
  r_val (v := .slice (some ⟨w.heap.size, 0, none⟩) n n) (w' := w.alloc (.cells ((List.replicate n (0 : Int)).map iv).toArray e (0, 0))) (by
    have := run_makeInts (P := P) (w := w) hT hs hB hz hn
    simp only [execOp, hx, hy, Sem.run_bind, this, Result.andThen, Sem.run_pure]) rfl hw hd
    (h _ _ (hS.alloc _) (ext_alloc _ _) rfl)
end
def drawnAt (bits : List Int) (len : Nat) (i : Nat) : Int := roundI (IntKind.i64.wrap (takeI bits i + ((i / 2 : Nat) : Int))) len
def drawnTo (bits : List Int) (len : Nat) (n : Nat) : List Int := (List.range n).map (drawnAt bits len)
theorem drawnTo_succ {bits : List Int} {len n : Nat} : drawnTo bits len (n + 1) = drawnTo bits len n ++ [drawnAt bits len n] := by
  unfold drawnTo
  rw [List.range_succ, List.map_append]
  rfl
theorem drawnTo_len {bits : List Int} {len n : Nat} : (drawnTo bits len n).length = n := by simp [drawnTo]
def HBook.spentTo (b : HBook) (plan : List Int) (n : Nat) : List Int := (List.range n).foldl (fun u (i : Nat) => addAt (addAt u (plan.getD (2 * (i : Int)).toNat 0) (b.horses.getD i Horse0).mane) (plan.getD (2 * (i : Int) + 1).toNat 0) (b.horses.getD i Horse0).tail) (List.replicate b.hanks.length 0)
theorem HBook.spentTo_succ {b : HBook} {plan : List Int} {n : Nat} : b.spentTo plan (n + 1) = addAt (addAt (b.spentTo plan n) (plan.getD (2 * (n : Int)).toNat 0) (b.horses.getD n Horse0).mane) (plan.getD (2 * (n : Int) + 1).toNat 0) (b.horses.getD n Horse0).tail := by
  unfold HBook.spentTo
  rw [List.range_succ, List.foldl_append]
  rfl
structure VOk (u : List Int) (len : Nat) (B : Int) : Prop where
  len : u.length = len
  bd : ∀ k, 0 ≤ u.getD k 0 ∧ u.getD k 0 ≤ B
theorem VOk.addAt {u : List Int} {len : Nat} {B : Int} (h : VOk u len B) {k x : Int} (hx : 0 ≤ x ∧ x ≤ 30) : VOk (addAt u k x) len (B + 30) := by
  refine ⟨by simp [K.addAt, h.len], fun j => ?_⟩
  unfold K.addAt
  rw [List.getD_eq_getElem?_getD, List.getElem?_set]
  have h1 := h.bd k.toNat
  have h2 := h.bd j
  rw [List.getD_eq_getElem?_getD] at h2
  split
  · split
    · simp only [Option.getD_some]; omega
    · simp only [Option.getD_none]; omega
  · omega
theorem VOk.mono {u : List Int} {len : Nat} {B C : Int} (h : VOk u len B) (hc : B ≤ C) : VOk u len C := ⟨h.len, fun k => ⟨(h.bd k).1, by have := (h.bd k).2; omega⟩⟩
theorem HBook.spentTo_ok {b : HBook} (g : GoodB b) {plan : List Int} : ∀ {n : Nat}, n ≤ b.horses.length → VOk (b.spentTo plan n) b.hanks.length (60 * n)
  | 0, _ => ⟨by simp [HBook.spentTo], fun k => by
    have : (b.spentTo plan 0).getD k 0 = 0 := by
      unfold HBook.spentTo
      rw [List.getD_eq_getElem?_getD, List.range_zero, List.foldl_nil, List.getElem?_replicate]
      split <;> rfl
    omega⟩
  | n + 1, h => by
    rw [HBook.spentTo_succ]
    have h1 := HBook.spentTo_ok g (plan := plan) (n := n) (by omega)
    have h2 := g.horse _ (getD_mem (d := Horse0) (k := n) (l := b.horses) (by omega))
    exact ((h1.addAt (by omega)).addAt (by omega)).mono (by omega)
end K
end Go.Proofs.YtofpabocpcfbfaaDoor

/- The plain law of what is cut off. Conditions: none. -/
namespace Go.Proofs.YtofpabocpcfbfaaDoor
namespace K
open Go
theorem addAt_get {u : List Int} {k x : Int} {j : Nat} : (addAt u k x).getD j 0 = if j = k.toNat ∧ j < u.length then u.getD j 0 + x else u.getD j 0 := by
  unfold addAt
  rw [List.getD_eq_getElem?_getD, List.getElem?_set]
  by_cases h : k.toNat = j
  · subst h
    by_cases hl : k.toNat < u.length
    · simp [hl]
    · have : u.getD k.toNat 0 = 0 := by
        rw [List.getD_eq_getElem?_getD, List.getElem?_eq_none (by omega)]
        rfl
      simp [hl]
  · have h2 : ¬ j = k.toNat := fun e => h e.symm
    simp [h, h2]
theorem HBook.spent_cut {b : HBook} (g : GoodB b) {plan : List Int} (hip : b.isPlan plan = true) : ∀ {n : Nat}, n ≤ b.horses.length → ∀ k, k < b.hanks.length → (b.spentTo plan n).getD k 0 = (b.cutTo plan (2 * n)).getD k 0
  | 0, _, k, hk => by
    have h1 : (b.spentTo plan 0).getD k 0 = 0 := by
      unfold HBook.spentTo
      rw [List.getD_eq_getElem?_getD, List.range_zero, List.foldl_nil, List.getElem?_replicate]
      split <;> rfl
    have h2 : (b.cutTo plan (2 * 0)).getD k 0 = 0 := by
      show zero5.getD k 0 = 0
      match k with
      | 0 | 1 | 2 | 3 | 4 => rfl
      | n + 5 => rfl
    rw [h1, h2]
  | n + 1, h, k, hk => by
    have ih := HBook.spent_cut g hip (n := n) (by omega) k hk
    have hl := b.isPlan_len hip
    have g1 := g.l1
    have v0 := b.spentTo_ok g (plan := plan) (n := n) (by omega)
    have c0 := b.cutTo_ok g (plan := plan) (n := 2 * n) (by omega)
    have e1 : b.part (2 * n) = (b.horses.getD n Horse0).mane := by
      unfold HBook.part hcell
      rw [show 2 * n / 2 = n by omega, show (2 * n % 2 == 0) = true by simp]
      rfl
    have e2 : b.part (2 * n + 1) = (b.horses.getD n Horse0).tail := by
      unfold HBook.part hcell
      rw [show (2 * n + 1) / 2 = n by omega, show ((2 * n + 1) % 2 == 0) = false by simp]
      rfl
    have p1 : (2 * (n : Int)).toNat = 2 * n := by omega
    have p2 : (2 * (n : Int) + 1).toNat = 2 * n + 1 := by omega
    have l1 : (addAt (b.spentTo plan n) (plan.getD (2 * n) 0) (b.horses.getD n Horse0).mane).length = b.hanks.length := by simp [addAt, v0.len]
    have l2 : (addAt (b.cutTo plan (2 * n)) (plan.getD (2 * n) 0) (b.horses.getD n Horse0).mane).length = 5 := by simp [addAt, c0.len]
    rw [HBook.spentTo_succ, show 2 * (n + 1) = 2 * n + 1 + 1 by omega, HBook.cutTo_succ, HBook.cutTo_succ, e1, e2, p1, p2]
    rw [addAt_get, addAt_get, addAt_get, addAt_get, l1, l2, v0.len, c0.len, ih]
    have hk5 : k < 5 := by omega
    simp only [hk, hk5, and_true]
/-- A row that a call of a region has made; nil, or in new memory. -/
def RowA (e sz n : Nat) (cs : List Value) (v : Value) (lo hi : Nat) (w : World) : Prop := ∃ a c, v = .slice a n c ∧ (∀ z, a = some ⟨z, 0, none⟩ → lo ≤ z ∧ z < hi) ∧ (row e sz a n c cs).ok w
theorem rowa_stays {e sz n : Nat} {cs : List Value} {S : Nat → Prop} {v : Value} {lo hi : Nat} {w w1 w2 : World} (_ : Ext no w w1) (x : Ext S w1 w2) (hs : ∀ b, S b → (b < lo ∨ hi ≤ b) ∧ w.heap.size ≤ b) (h : RowA e sz n cs v lo hi w1) : RowA e sz n cs v lo hi w2 := by
  obtain ⟨a, c, h1, h2, h3⟩ := h
  refine ⟨a, c, h1, h2, (row e sz a n c cs).loc w1 w2 (fun k hk => ?_) h3⟩
  have hk' : a = some ⟨k, 0, none⟩ := hk
  subst hk'
  exact x.block k (row_lt h3) (fun y => by have := (hs k y).1; have := h2 k rfl; omega)
def HBook.wantTo (b : HBook) (u : List Int) (up : Bool) (k : Nat) : Int := (List.range k).foldl (fun s k => bif decide (0 < u.getD k 0) then s + (b.hanks.getD k Hank0).at up else s) 0
theorem HBook.wantTo_succ {b : HBook} {u : List Int} {up : Bool} {k : Nat} : b.wantTo u up (k + 1) = bif decide (0 < u.getD k 0) then b.wantTo u up k + (b.hanks.getD k Hank0).at up else b.wantTo u up k := by
  unfold HBook.wantTo
  rw [List.range_succ, List.foldl_append]
  rfl
theorem HBook.off_want {b : HBook} {u v : List Int} {up : Bool} {len : Nat} {B : Int} (hv : VOk v len B) (h : ∀ k, k < len → v.getD k 0 = u.getD k 0) : ∀ {k : Nat}, k ≤ len → b.offTo u up k = b.wantTo v up k - sumTo v k
  | 0, _ => by simp [HBook.offTo, HBook.wantTo, sumTo]
  | k + 1, hk => by
    have ih := HBook.off_want hv h (b := b) (up := up) (k := k) (by omega)
    have hb := hv.bd k
    rw [HBook.offTo_succ, HBook.wantTo_succ, sumTo_succ (by rw [hv.len]; omega), ← h k (by omega)]
    cases hc : decide (0 < v.getD k 0) with
    | true => simp only [cond_true]; omega
    | false =>
      have : v.getD k 0 = 0 := by have := of_decide_eq_false hc; omega
      simp only [cond_false]; omega
theorem HBook.wantTo_bd {b : HBook} (g : GoodB b) {u : List Int} {up : Bool} : ∀ {k : Nat}, k ≤ b.hanks.length → 0 ≤ b.wantTo u up k ∧ b.wantTo u up k ≤ 60 * k
  | 0, _ => by simp [HBook.wantTo]
  | k + 1, h => by
    have h1 := HBook.wantTo_bd g (u := u) (up := up) (k := k) (by omega)
    have h2 := Hank.at_bd g (up := up) (k := k) (by omega)
    rw [HBook.wantTo_succ]
    cases decide (0 < u.getD k 0) <;> simp only [cond_true, cond_false] <;> omega
/-- What is cut off: what the used hanks weigh, less all parts. -/
theorem HBook.off_law {b : HBook} (g : GoodB b) {plan : List Int} (hip : b.isPlan plan = true) (up : Bool) : b.offOf (b.cutOf plan) up = b.wantTo (b.spentTo plan b.horses.length) up b.hanks.length - sumTo (b.spentTo plan b.horses.length) b.hanks.length := by
  unfold HBook.offOf HBook.cutOf
  rw [b.isPlan_len hip]
  exact HBook.off_want (b.spentTo_ok g (Nat.le_refl _)) (fun k hk => b.spent_cut g hip (Nat.le_refl _) k hk) (Nat.le_refl _)
/-- A plan that numbers draw is one. -/
theorem HBook.drawn_plan {b : HBook} {bits : List Int} (h : 1 ≤ b.hanks.length) : b.isPlan (drawnTo bits b.hanks.length (2 * b.horses.length)) = true := by
  unfold HBook.isPlan
  rw [drawnTo_len, Bool.and_eq_true]
  refine ⟨by simp, ?_⟩
  rw [List.all_eq_true]
  intro x hx
  obtain ⟨i, _, rfl⟩ := List.mem_map.1 hx
  have := roundI_bd (n := IntKind.i64.wrap (takeI bits i + ((i / 2 : Nat) : Int))) (m := (b.hanks.length : Int)) (by omega)
  unfold drawnAt
  simp only [Bool.and_eq_true, decide_eq_true_eq]
  omega
/-- A plan that surely works cuts no hank too far. -/
theorem HBook.works_fits {b : HBook} {plan : List Int} (h : b.works plan = true) {k : Nat} (hk : k < b.hanks.length) : (b.cutOf plan).getD k 0 ≤ (b.hanks.getD k Hank0).w.lo := by
  unfold HBook.works at h
  rw [Bool.and_eq_true, List.all_eq_true] at h
  have := h.1 k (List.mem_range.2 hk)
  exact of_decide_eq_true this
/-- A list that is read, in new memory. -/
def lst (A : Option Addr) (n : Nat) (xs : List Int) : Item where
  fp k := ∃ a, A = some a ∧ 0 < n ∧ k = a.block
  ok w := RdInts w A n xs
  loc := fun _ _ h hr => hr.loc fun a ha hn => h a.block ⟨a, ha, hn, rfl⟩
theorem lst_row {B w' : World} {L : List Item} {i e sz n c m : Nat} {a : Option Addr} {cs : List Value} {xs : List Int} (hS : St (bs B) w' L) (hi : L[i]? = some (row e sz a n c cs)) : ∀ k, (lst a m xs).fp k → B.heap.size ≤ k ∧ k < w'.heap.size := by
  rintro k ⟨p, rfl, _, rfl⟩
  rcases (hS.get hi).2 with ⟨h1, _⟩ | ⟨b, arr, h1, _⟩
  · cases h1
  · cases h1
    exact ⟨(hS.lo _ (mem_of_get hi) b rfl).1, (hS.lo _ (mem_of_get hi) b rfl).2.2⟩
theorem lst_nil {B w' : World} {m : Nat} {xs : List Int} : ∀ k, (lst none m xs).fp k → B.heap.size ≤ k ∧ k < w'.heap.size := by
  rintro k ⟨p, h, _⟩
  cases h
end K
end Go.Proofs.YtofpabocpcfbfaaDoor

/- All plans: just those that work, in order; the best one. Conditions: none. -/
namespace Go.Proofs.YtofpabocpcfbfaaDoor
namespace K
open Go
/-! ### Lists before others -/
def lessL : List Int → List Int → Bool
  | [], [] => false
  | [], _ :: _ => true
  | _ :: _, [] => false
  | x :: xs, y :: ys => if x = y then lessL xs ys else decide (x < y)
theorem lessL_irr : ∀ (l : List Int), lessL l l = false
  | [] => rfl
  | x :: xs => by simp [lessL, lessL_irr xs]
theorem lessL_asym : ∀ {l m : List Int}, lessL l m = true → lessL m l = false
  | [], [], h => by cases h
  | [], _ :: _, _ => rfl
  | _ :: _, [], h => by cases h
  | x :: xs, y :: ys, h => by
    simp only [lessL] at h ⊢
    by_cases e : x = y
    · subst e
      simp only [if_true] at h ⊢
      exact lessL_asym h
    · rw [if_neg e] at h
      rw [if_neg (fun e2 => e e2.symm)]
      have := of_decide_eq_true h
      exact decide_eq_false (by omega)
theorem lessL_trans : ∀ {l m n : List Int}, lessL l m = true → lessL m n = true → lessL l n = true
  | [], [], _, h, _ => by cases h
  | [], _ :: _, [], _, h => by cases h
  | [], _ :: _, _ :: _, _, _ => rfl
  | _ :: _, [], _, h, _ => by cases h
  | _ :: _, _ :: _, [], _, h => by cases h
  | x :: xs, y :: ys, z :: zs, h, k => by
    simp only [lessL] at h k ⊢
    by_cases e : x = y
    · subst e
      rw [if_pos rfl] at h
      by_cases e2 : x = z
      · rw [if_pos e2] at k ⊢; exact lessL_trans h k
      · rw [if_neg e2] at k ⊢; exact k
    · rw [if_neg e] at h
      have h1 := of_decide_eq_true h
      by_cases e2 : y = z
      · subst e2; rw [if_neg e]; exact h
      · rw [if_neg e2] at k
        have h2 := of_decide_eq_true k
        rw [if_neg (by omega)]
        exact decide_eq_true (by omega)
theorem lessL_split : ∀ {p xs ys : List Int} {x y : Int}, x < y → lessL (p ++ x :: xs) (p ++ y :: ys) = true
  | [], _, _, x, y, h => by
    simp only [List.nil_append, lessL]
    rw [if_neg (by omega)]
    exact decide_eq_true h
  | a :: p, xs, ys, x, y, h => by
    simp only [List.cons_append, lessL, if_true]
    exact lessL_split h
theorem lessL_cmp' : ∀ {l m : List Int}, 0 ≤ cmpL l m ↔ lessL l m = false
  | [], [] => by simp [cmpL, lessL]
  | [], _ :: _ => by simp [cmpL, lessL]
  | _ :: _, [] => by simp [cmpL, lessL]
  | x :: xs, y :: ys => by
    have e : cmpL (x :: xs) (y :: ys) = if x < y then -1 else if y < x then 1 else cmpL xs ys := by rw [cmpL]
    have f : lessL (x :: xs) (y :: ys) = if x = y then lessL xs ys else decide (x < y) := by rw [lessL]
    rw [e, f]
    by_cases h1 : x < y
    · rw [if_pos h1, if_neg (by omega), decide_eq_true h1]; simp
    · by_cases h2 : y < x
      · rw [if_neg h1, if_pos h2, if_neg (by omega), decide_eq_false h1]; simp
      · rw [if_neg h1, if_neg h2, if_pos (by omega)]; exact lessL_cmp'
theorem lessL_cmp {l m : List Int} : decide (0 ≤ cmpL l m) = !lessL l m := by
  cases h : lessL l m with
  | false => exact decide_eq_true (lessL_cmp'.2 h)
  | true => exact decide_eq_false (fun e => by rw [lessL_cmp'.1 e] at h; cases h)
def shorterL (l m : List Int) : Bool := if l.length = m.length then lessL l m else decide (l.length < m.length)
theorem shorterL_irr (l : List Int) : shorterL l l = false := by simp [shorterL, lessL_irr]
theorem shorterL_trans {l m n : List Int} (h : shorterL l m = true) (k : shorterL m n = true) : shorterL l n = true := by
  unfold shorterL at *
  by_cases e1 : l.length = m.length
  · rw [if_pos e1] at h
    by_cases e2 : m.length = n.length
    · rw [if_pos e2] at k
      rw [if_pos (e1.trans e2)]
      exact lessL_trans h k
    · rw [if_neg e2] at k
      have := of_decide_eq_true k
      rw [if_neg (by omega)]
      exact decide_eq_true (by omega)
  · rw [if_neg e1] at h
    have h1 := of_decide_eq_true h
    by_cases e2 : m.length = n.length
    · rw [if_neg (by omega)]
      exact decide_eq_true (by omega)
    · rw [if_neg e2] at k
      have := of_decide_eq_true k
      rw [if_neg (by omega)]
      exact decide_eq_true (by omega)
/-! ### Which plans there are -/
/-- A plan works, at an end of all weights. -/
structure HBook.WorksAt (b : HBook) (up : Bool) (p : List Int) : Prop where
  is : b.isPlan p = true
  fit : ∀ k, k < b.hanks.length → (b.cutOf p).getD k 0 ≤ (b.hanks.getD k Hank0).at up
  pair : ∀ n, n < b.horses.length → b.sure n (p.getD (2 * n) 0) (p.getD (2 * n + 1) 0) = true
theorem two_nat (n : Nat) : (2 * (n : Int)).toNat = 2 * n ∧ (2 * (n : Int) + 1).toNat = 2 * n + 1 := by omega
theorem HBook.works_iff {b : HBook} {p : List Int} (hp : b.isPlan p = true) : b.works p = true ↔ b.WorksAt false p := by
  unfold HBook.works HBook.fits HBook.pair
  rw [Bool.and_eq_true, List.all_eq_true, List.all_eq_true]
  constructor
  · rintro ⟨h1, h2⟩
    exact ⟨hp, fun k hk => of_decide_eq_true (h1 k (List.mem_range.2 hk)), fun n hn => by have := h2 n (List.mem_range.2 hn); rw [(two_nat n).1, (two_nat n).2] at this; exact this⟩
  · rintro ⟨_, h1, h2⟩
    exact ⟨fun k hk => decide_eq_true (h1 k (List.mem_range.1 hk)), fun n hn => by rw [(two_nat n).1, (two_nat n).2]; exact h2 n (List.mem_range.1 hn)⟩
theorem HBook.isPlan_iff {b : HBook} {p : List Int} : b.isPlan p = true ↔ p.length = 2 * b.horses.length ∧ ∀ x ∈ p, 0 ≤ x ∧ x < b.hanks.length := by
  unfold HBook.isPlan
  simp only [Bool.and_eq_true, decide_eq_true_eq, List.all_eq_true]
  constructor
  · rintro ⟨h1, h2⟩; exact ⟨h1, fun x hx => by have := h2 x hx; omega⟩
  · rintro ⟨h1, h2⟩; exact ⟨h1, fun x hx => by have := h2 x hx; omega⟩
theorem HBook.cutTo_pre {b : HBook} {p q : List Int} : ∀ {n : Nat}, n ≤ p.length → b.cutTo (p ++ q) n = b.cutTo p n
  | 0, _ => rfl
  | n + 1, h => by
    rw [HBook.cutTo_succ, HBook.cutTo_succ, HBook.cutTo_pre (by omega)]
    have : (p ++ q).getD n 0 = p.getD n 0 := by
      rw [List.getD_eq_getElem?_getD, List.getD_eq_getElem?_getD, List.getElem?_append_left (by omega)]
    rw [this]
theorem getD_snoc {p : List Int} {x : Int} : (p ++ [x]).getD p.length 0 = x := by
  rw [List.getD_eq_getElem?_getD, List.getElem?_append_right (Nat.le_refl _)]
  simp
theorem getD_snoc' {p : List Int} {x : Int} {n : Nat} (h : n < p.length) : (p ++ [x]).getD n 0 = p.getD n 0 := by
  rw [List.getD_eq_getElem?_getD, List.getD_eq_getElem?_getD, List.getElem?_append_left h]
theorem HBook.cutTo_len {b : HBook} {p : List Int} : ∀ {n : Nat}, (b.cutTo p n).length = 5
  | 0 => rfl
  | n + 1 => by rw [HBook.cutTo_succ]; simp [addAt, HBook.cutTo_len (n := n)]
theorem okK_iff {b : HBook} {up : Bool} {plan u : List Int} {k : Nat} : b.okK up plan u k = true ↔ u.getD k 0 + b.part plan.length ≤ (b.hanks.getD k Hank0).at up ∧ (plan.length % 2 = 1 → b.sure ((plan.length / 2 : Nat) : Int) (plan.getD (plan.length - 1) 0) k = true) := by
  unfold HBook.okK
  rw [show ((plan.length : Int) - 1).toNat = plan.length - 1 by omega]
  rw [Bool.not_eq_true', Bool.or_eq_false_iff, decide_eq_false_iff_not, Bool.and_eq_false_iff, decide_eq_false_iff_not, Bool.not_eq_false']
  constructor
  · rintro ⟨h1, h2⟩
    refine ⟨by omega, fun h => ?_⟩
    rcases h2 with h2 | h2
    · omega
    · exact h2
  · rintro ⟨h1, h2⟩
    refine ⟨by omega, ?_⟩
    by_cases h : plan.length % 2 = 1
    · exact .inr (h2 h)
    · exact .inl (by omega)
theorem HBook.plansFrom_sound {b : HBook} (g : GoodB b) (up : Bool) : ∀ (r : Nat) (plan u : List Int), plan.length + r = 2 * b.horses.length → (∀ x ∈ plan, 0 ≤ x ∧ x < b.hanks.length) → u = b.cutTo plan plan.length → (∀ k, k < b.hanks.length → u.getD k 0 ≤ (b.hanks.getD k Hank0).at up) → (∀ n, 2 * n + 1 < plan.length → b.sure n (plan.getD (2 * n) 0) (plan.getD (2 * n + 1) 0) = true) →
    ∀ y ∈ b.plansFrom up r plan u, b.WorksAt up y.1 ∧ y.2 = b.cutOf y.1 ∧ plan <+: y.1
  | 0, plan, u, hl, hp, hu, hc, hs, y, hy => by
    simp only [HBook.plansFrom, List.mem_singleton] at hy
    subst hy
    exact ⟨⟨HBook.isPlan_iff.2 ⟨by omega, hp⟩, fun k hk => by have := hc k hk; rw [hu] at this; exact this, fun n hn => hs n (by omega)⟩, hu, List.prefix_refl _⟩
  | r + 1, plan, u, hl, hp, hu, hc, hs, y, hy => by
    simp only [HBook.plansFrom, List.mem_flatMap, List.mem_range] at hy
    obtain ⟨k, hk, hy⟩ := hy
    have g1 := g.l1
    cases hok : b.okK up plan u k with
    | false => rw [hok] at hy; simp at hy
    | true =>
      rw [hok] at hy
      simp only [cond_true] at hy
      obtain ⟨o1, o2⟩ := okK_iff.1 hok
      have hul : u.length = 5 := by rw [hu]; exact HBook.cutTo_len
      obtain ⟨h1, h2, h3⟩ := HBook.plansFrom_sound g up r (plan ++ [(k : Int)]) (addAt u k (b.part plan.length)) (by simp; omega) (fun x hx => by
          rcases List.mem_append.1 hx with hx | hx
          · exact hp x hx
          · cases List.mem_singleton.1 hx; omega) (by
          rw [List.length_append, List.length_singleton, HBook.cutTo_succ, HBook.cutTo_pre (Nat.le_refl _), getD_snoc, hu]) (fun j hj => by
          rw [addAt_get, hul]
          split
          · rename_i h; obtain ⟨h, _⟩ := h; rw [show (k : Int).toNat = k by omega] at h; subst h; exact o1
          · exact hc j hj) (fun n hn => by
          rw [List.length_append, List.length_singleton] at hn
          by_cases hn2 : 2 * n + 1 < plan.length
          · rw [getD_snoc' (by omega), getD_snoc' hn2]; exact hs n hn2
          · have e : 2 * n + 1 = plan.length := by omega
            have := o2 (by omega)
            rw [show plan.length / 2 = n by omega, show plan.length - 1 = 2 * n by omega] at this
            rw [getD_snoc' (by omega), e, getD_snoc]
            exact this) y hy
      exact ⟨h1, h2, (List.prefix_append _ _).trans h3⟩
theorem HBook.cutTo_mono {b : HBook} (g : GoodB b) {p : List Int} {k : Nat} : ∀ {n m : Nat}, n ≤ m → m ≤ 2 * b.horses.length → (b.cutTo p n).getD k 0 ≤ (b.cutTo p m).getD k 0
  | n, 0, h, _ => by
    have : n = 0 := by omega
    subst this; omega
  | n, m + 1, h, hm => by
    by_cases e : n = m + 1
    · subst e; omega
    · have ih := HBook.cutTo_mono g (p := p) (k := k) (n := n) (m := m) (by omega) (by omega)
      have := b.part_bd g (n := m) (by omega)
      rw [HBook.cutTo_succ, addAt_get]
      split <;> omega
theorem prefix_snoc {p q : List Int} (h : q <+: p) (hl : q.length < p.length) : (q ++ [p.getD q.length 0]) <+: p := by
  obtain ⟨t, rfl⟩ := h
  cases t with
  | nil => simp at hl
  | cons x t =>
    have : (q ++ x :: t).getD q.length 0 = x := by
      rw [List.getD_eq_getElem?_getD, List.getElem?_append_right (Nat.le_refl _)]
      simp
    rw [this]
    exact ⟨t, by simp⟩
theorem getD_prefix {p q : List Int} (h : q <+: p) {n : Nat} (hn : n < q.length) : q.getD n 0 = p.getD n 0 := by
  obtain ⟨t, rfl⟩ := h
  rw [List.getD_eq_getElem?_getD, List.getD_eq_getElem?_getD, List.getElem?_append_left hn]
theorem HBook.plansFrom_all {b : HBook} (g : GoodB b) {up : Bool} {p : List Int} (hw : b.WorksAt up p) : ∀ (r : Nat) (plan : List Int), plan.length + r = 2 * b.horses.length → plan <+: p → (p, b.cutOf p) ∈ b.plansFrom up r plan (b.cutTo p plan.length)
  | 0, plan, hl, hpre => by
    obtain ⟨hlen, _⟩ := HBook.isPlan_iff.1 hw.is
    have : plan = p := hpre.eq_of_length (by omega)
    subst this
    simp [HBook.plansFrom, HBook.cutOf]
  | r + 1, plan, hl, hpre => by
    obtain ⟨hlen, hmem⟩ := HBook.isPlan_iff.1 hw.is
    have hlt : plan.length < p.length := by omega
    have hk := hmem _ (getD_mem (d := 0) hlt)
    simp only [HBook.plansFrom, List.mem_flatMap, List.mem_range]
    refine ⟨(p.getD plan.length 0).toNat, by omega, ?_⟩
    have ek : (((p.getD plan.length 0).toNat : Nat) : Int) = p.getD plan.length 0 := by omega
    have hok : b.okK up plan (b.cutTo p plan.length) (p.getD plan.length 0).toNat = true := by
      refine okK_iff.2 ⟨?_, fun h => ?_⟩
      · have h1 := hw.fit (p.getD plan.length 0).toNat (by omega)
        have h2 := b.cutTo_mono g (p := p) (k := (p.getD plan.length 0).toNat) (n := plan.length + 1) (m := p.length) (by omega) (by omega)
        have g1 := g.l1
        rw [HBook.cutTo_succ, addAt_get, HBook.cutTo_len, if_pos ⟨rfl, by omega⟩] at h2
        unfold HBook.cutOf at h1
        omega
      · have h1 := hw.pair (plan.length / 2) (by omega)
        rw [ek, getD_prefix hpre (by omega)]
        rw [show 2 * (plan.length / 2) + 1 = plan.length by omega, show 2 * (plan.length / 2) = plan.length - 1 by omega] at h1
        exact h1
    rw [hok, cond_true, ek]
    have := HBook.plansFrom_all g hw r (plan ++ [p.getD plan.length 0]) (by simp; omega) (prefix_snoc hpre hlt)
    rw [List.length_append, List.length_singleton, HBook.cutTo_succ] at this
    exact this
/-- Just the plans that work are yielded, with what they cut. -/
theorem HBook.plans_iff {b : HBook} (g : GoodB b) {up : Bool} {y : List Int × List Int} : y ∈ b.plans up ↔ b.WorksAt up y.1 ∧ y.2 = b.cutOf y.1 := by
  constructor
  · intro h
    have := HBook.plansFrom_sound g up _ [] zero5 (by simp) (fun x hx => by cases hx) rfl (fun k hk => by
      have h1 := Hank.at_bd g (up := up) hk
      have : zero5.getD k 0 = 0 := by
        match k with
        | 0 | 1 | 2 | 3 | 4 => rfl
        | n + 5 => rfl
      omega) (fun n hn => by simp at hn) y h
    exact ⟨this.1, this.2.1⟩
  · rintro ⟨h1, h2⟩
    obtain ⟨p, v⟩ := y
    simp only at h1 h2
    subst h2
    exact HBook.plansFrom_all g h1 _ [] (by simp) (List.nil_prefix)
theorem HBook.plansFrom_sorted {b : HBook} (g : GoodB b) (up : Bool) : ∀ (r : Nat) (plan u : List Int), (b.plansFrom up r plan u).Pairwise (fun x y => lessL x.1 y.1 = true) ∧ ∀ y ∈ b.plansFrom up r plan u, plan <+: y.1
  | 0, plan, u => by
    refine ⟨List.pairwise_singleton _ _, fun y hy => ?_⟩
    simp only [HBook.plansFrom, List.mem_singleton] at hy
    subst hy
    exact List.prefix_refl _
  | r + 1, plan, u => by
    have key : ∀ k : Nat, (bif b.okK up plan u k then b.plansFrom up r (plan ++ [(k : Int)]) (addAt u k (b.part plan.length)) else []).Pairwise (fun x y => lessL x.1 y.1 = true) ∧ ∀ y ∈ (bif b.okK up plan u k then b.plansFrom up r (plan ++ [(k : Int)]) (addAt u k (b.part plan.length)) else []), (plan ++ [(k : Int)]) <+: y.1 := by
      intro k
      cases b.okK up plan u k with
      | false => exact ⟨List.Pairwise.nil, fun y hy => by simp at hy⟩
      | true => exact HBook.plansFrom_sorted g up r _ _
    refine ⟨?_, fun y hy => ?_⟩
    · unfold HBook.plansFrom
      rw [List.pairwise_flatMap]
      refine ⟨fun k _ => (key k).1, ?_⟩
      refine List.pairwise_lt_range.imp ?_
      intro k k' hkk x hx y hy
      obtain ⟨t, ht⟩ := (key k).2 x hx
      obtain ⟨s, hs⟩ := (key k').2 y hy
      rw [← ht, ← hs, List.append_assoc, List.append_assoc]
      exact lessL_split (by omega)
    · simp only [HBook.plansFrom, List.mem_flatMap] at hy
      obtain ⟨k, _, hy⟩ := hy
      exact (List.prefix_append _ _).trans ((key k).2 y hy)
/-- The best of a list: nothing before it is as good, nothing behind it better. -/
theorem HBook.bestFold_split {b : HBook} : ∀ (l : List (List Int × List Int)), l ≠ [] → ∃ pre x post, l = pre ++ x :: post ∧ l.foldl b.bestStep ([], 0, false) = (x.1, b.offOf x.2 true, true) ∧ (∀ y ∈ pre, b.offOf x.2 true < b.offOf y.2 true) ∧ ∀ y ∈ post, b.offOf x.2 true ≤ b.offOf y.2 true := by
  intro l
  suffices h : ∀ r : List (List Int × List Int), r ≠ [] → ∃ pre x post, r.reverse = pre ++ x :: post ∧ r.reverse.foldl b.bestStep ([], 0, false) = (x.1, b.offOf x.2 true, true) ∧ (∀ y ∈ pre, b.offOf x.2 true < b.offOf y.2 true) ∧ ∀ y ∈ post, b.offOf x.2 true ≤ b.offOf y.2 true by
    intro hl
    have := h l.reverse (by simpa using hl)
    rwa [List.reverse_reverse] at this
  intro r
  induction r with
  | nil => intro h; exact absurd rfl h
  | cons z r ih =>
    intro _
    by_cases hr : r = []
    · subst hr
      exact ⟨[], z, [], rfl, rfl, (fun y hy => by cases hy), (fun y hy => by cases hy)⟩
    · obtain ⟨pre, x, post, h1, h2, h3, h4⟩ := ih hr
      rw [List.reverse_cons, List.foldl_append, h2]
      simp only [List.foldl_cons, List.foldl_nil, HBook.bestStep, Bool.not_true, Bool.false_or]
      by_cases hlt : b.offOf z.2 true < b.offOf x.2 true
      · refine ⟨r.reverse, z, [], rfl, by rw [decide_eq_true hlt]; rfl, fun y hy => ?_, (fun y hy => by cases hy)⟩
        rw [h1] at hy
        rcases List.mem_append.1 hy with hy | hy
        · have := h3 y hy; omega
        · rcases List.mem_cons.1 hy with rfl | hy
          · exact hlt
          · have := h4 y hy; omega
      · refine ⟨pre, x, post ++ [z], by rw [h1]; simp, by rw [decide_eq_false hlt]; rfl, h3, fun y hy => ?_⟩
        rcases List.mem_append.1 hy with hy | hy
        · exact h4 y hy
        · cases List.mem_singleton.1 hy; omega
theorem HBook.served_iff {b : HBook} (g : GoodB b) : b.served = true ↔ ∃ p, b.WorksAt false p := by
  unfold HBook.served
  rw [Bool.not_eq_true', List.isEmpty_eq_false_iff_exists_mem]
  constructor
  · rintro ⟨y, hy⟩; exact ⟨y.1, ((b.plans_iff g).1 hy).1⟩
  · rintro ⟨p, hp⟩; exact ⟨(p, b.cutOf p), (b.plans_iff g).2 ⟨hp, rfl⟩⟩
theorem HBook.servedAt_iff {b : HBook} (g : GoodB b) {up : Bool} : b.servedAt up = true ↔ ∃ p, b.WorksAt up p := by
  unfold HBook.servedAt
  rw [Bool.not_eq_true', List.isEmpty_eq_false_iff_exists_mem]
  constructor
  · rintro ⟨y, hy⟩; exact ⟨y.1, ((b.plans_iff g).1 hy).1⟩
  · rintro ⟨p, hp⟩; exact ⟨(p, b.cutOf p), (b.plans_iff g).2 ⟨hp, rfl⟩⟩
theorem HBook.best_found {b : HBook} : b.bestP.2.2 = b.served := by
  unfold HBook.bestP HBook.served
  by_cases h : b.plans false = []
  · rw [h]; rfl
  · obtain ⟨pre, x, post, _, h2, _⟩ := b.bestFold_split _ h
    rw [h2]
    cases hp : b.plans false with
    | nil => exact absurd hp h
    | cons _ _ => rfl
/-- The best plan works; no other one is better, nor as good and before it. -/
theorem HBook.best_law {b : HBook} (g : GoodB b) (hs : b.served = true) : b.WorksAt false b.bestP.1 ∧ ∀ p, b.WorksAt false p → b.offOf (b.cutOf b.bestP.1) true < b.offOf (b.cutOf p) true ∨ b.offOf (b.cutOf b.bestP.1) true = b.offOf (b.cutOf p) true ∧ lessL p b.bestP.1 = false := by
  have h0 : b.plans false ≠ [] := by
    intro h
    unfold HBook.served at hs
    rw [h] at hs
    cases hs
  obtain ⟨pre, x, post, h1, h2, h3, h4⟩ := b.bestFold_split _ h0
  have e1 : b.bestP.1 = x.1 := by unfold HBook.bestP; rw [h2]
  have hx := (b.plans_iff g).1 (show x ∈ b.plans false by rw [h1]; simp)
  rw [e1]
  refine ⟨hx.1, fun p hp => ?_⟩
  have hsort := (b.plansFrom_sorted g false (2 * b.horses.length) [] zero5).1
  have hm := (b.plans_iff g (y := (p, b.cutOf p))).2 ⟨hp, rfl⟩
  change (b.plans false).Pairwise _ at hsort
  rw [h1] at hm hsort
  rw [← hx.2]
  rcases List.mem_append.1 hm with hm | hm
  · exact .inl (h3 _ hm)
  · rcases List.mem_cons.1 hm with hm | hm
    · subst hm
      exact .inr ⟨rfl, lessL_irr _⟩
    · have h5 := h4 _ hm
      simp only at h5
      have h6 := (List.pairwise_cons.1 (List.pairwise_append.1 hsort).2.1).1 _ hm
      rcases Int.lt_or_le (b.offOf x.2 true) (b.offOf (b.cutOf p) true) with h7 | h7
      · exact .inl h7
      · exact .inr ⟨by omega, lessL_asym h6⟩
end K
end Go.Proofs.YtofpabocpcfbfaaDoor

/- The horses for which there is no hair: plain laws; books that serve no less. Conditions: none. -/
namespace Go.Proofs.YtofpabocpcfbfaaDoor
namespace K
open Go
/-! ### Sets of horses -/
theorem lackStep_eq {b : HBook} {s : List Int × Bool} {set : Nat} : b.lackStep s set = bif s.2 && !shorterL (outTo set b.horses.length) s.1 then s else bif (b.horsesOf (restTo b.horses set b.horses.length)).served then (outTo set b.horses.length, true) else s := by
  have e : (decide (s.1.length < (outTo set b.horses.length).length) || (decide ((outTo set b.horses.length).length = s.1.length) && decide (0 ≤ cmpL (outTo set b.horses.length) s.1))) = !shorterL (outTo set b.horses.length) s.1 := by
    unfold shorterL
    rw [lessL_cmp]
    by_cases h : (outTo set b.horses.length).length = s.1.length
    · rw [if_pos h, decide_eq_true h, decide_eq_false (by omega)]; simp
    · rw [if_neg h, decide_eq_false h]
      by_cases h2 : (outTo set b.horses.length).length < s.1.length
      · rw [decide_eq_true h2, decide_eq_false (by omega)]; rfl
      · rw [decide_eq_false h2, decide_eq_true (by omega)]; rfl
  unfold HBook.lackStep
  simp only [e]
abbrev HBook.rest (b : HBook) (set : Nat) : HBook := b.horsesOf (restTo b.horses set b.horses.length)
structure LackInv (b : HBook) (k : Nat) (s : List Int × Bool) : Prop where
  some : s.2 = true → ∃ j, j < k ∧ (b.rest j).served = true ∧ s.1 = outTo j b.horses.length
  none : s.2 = false → s.1 = []
  least : ∀ j, j < k → (b.rest j).served = true → s.2 = true ∧ shorterL (outTo j b.horses.length) s.1 = false
theorem lackTo_inv {b : HBook} : ∀ (k : Nat), LackInv b k (b.lackTo k)
  | 0 => ⟨(fun h => by cases h), fun _ => rfl, (fun j hj => by omega)⟩
  | k + 1 => by
    have ih := lackTo_inv (b := b) k
    rw [HBook.lackTo_succ, lackStep_eq]
    cases hc : ((b.lackTo k).2 && !shorterL (outTo k b.horses.length) (b.lackTo k).1) with
    | true =>
      rw [cond_true]
      rw [Bool.and_eq_true, Bool.not_eq_true'] at hc
      refine ⟨fun h => ?_, ih.none, fun j hj hs => ?_⟩
      · obtain ⟨j, h1, h2⟩ := ih.some h
        exact ⟨j, by omega, h2⟩
      · by_cases e : j = k
        · subst e; exact ⟨hc.1, hc.2⟩
        · exact ih.least j (by omega) hs
    | false =>
      rw [cond_false]
      cases hs : (b.horsesOf (restTo b.horses k b.horses.length)).served with
      | false =>
        rw [cond_false]
        refine ⟨fun h => ?_, ih.none, fun j hj hs2 => ?_⟩
        · obtain ⟨j, h1, h2⟩ := ih.some h
          exact ⟨j, by omega, h2⟩
        · by_cases e : j = k
          · subst e; exact absurd (hs.symm.trans hs2) (by decide)
          · exact ih.least j (by omega) hs2
      | true =>
        rw [cond_true]
        refine ⟨fun _ => ⟨k, by omega, hs, rfl⟩, (fun h => by cases h), fun j hj hs2 => ⟨rfl, ?_⟩⟩
        by_cases e : j = k
        · subst e; exact shorterL_irr _
        · obtain ⟨h1, h2⟩ := ih.least j (by omega) hs2
          rw [h1, Bool.true_and, Bool.not_eq_false'] at hc
          cases h3 : shorterL (outTo j b.horses.length) (outTo k b.horses.length) with
          | false => rfl
          | true => exact absurd ((shorterL_trans h3 hc).symm.trans h2) (by decide)
theorem bitB_zero {k : Nat} : bitB 0 k = false := by simp [bitB]
theorem bitB_full : ∀ {n k : Nat}, k < n → bitB (2 ^ n - 1) k = true := by
  intro n k h
  unfold bitB
  have h1 : (2 ^ n - 1) / 2 ^ k = 2 ^ (n - k) - 1 := by
    have e : 2 ^ n = 2 ^ k * 2 ^ (n - k) := by rw [← Nat.pow_add]; congr 1; omega
    have hk : 0 < 2 ^ k := Nat.pow_pos (by decide)
    have hm : 0 < 2 ^ (n - k) := Nat.pow_pos (by decide)
    rw [e]
    rw [Nat.div_eq_iff hk]
    have : 2 ^ k * (2 ^ (n - k) - 1) = 2 ^ k * 2 ^ (n - k) - 2 ^ k := by rw [Nat.mul_sub]; simp
    have h3 : 2 ^ k ≤ 2 ^ k * 2 ^ (n - k) := Nat.le_mul_of_pos_right _ hm
    rw [Nat.mul_comm (2 ^ (n - k) - 1)]
    omega
  rw [h1]
  have h2 : 2 ^ (n - k) = 2 * 2 ^ (n - k - 1) := by rw [← Nat.pow_succ']; congr 1; omega
  have h3 : 0 < 2 ^ (n - k - 1) := Nat.pow_pos (by decide)
  have : (2 ^ (n - k) - 1) % 2 = 1 := by omega
  rw [this]
  rfl
theorem rest_zero {hs : List Horse} : ∀ {n : Nat}, n ≤ hs.length → restTo hs 0 n = hs.take n
  | 0, _ => by simp [restTo]
  | n + 1, h => by
    rw [restTo_succ, bitB_zero, cond_false, rest_zero (by omega), List.take_add_one, List.getD_eq_getElem?_getD, List.getElem?_eq_getElem (by omega)]
    rfl
theorem out_zero {n : Nat} : outTo 0 n = [] := by
  unfold outTo
  rw [List.map_eq_nil_iff, List.filter_eq_nil_iff]
  intro x _
  simp [bitB_zero]
theorem rest_of_out {hs : List Horse} {set : Nat} : ∀ {n : Nat}, n ≤ hs.length → outTo set n = [] → restTo hs set n = hs.take n
  | 0, _, _ => by simp [restTo]
  | n + 1, h, e => by
    rw [outTo_succ] at e
    cases hb : bitB set n with
    | true => rw [hb] at e; simp at e
    | false =>
      rw [hb, cond_false] at e
      rw [restTo_succ, hb, cond_false, rest_of_out (by omega) e, List.take_add_one, List.getD_eq_getElem?_getD, List.getElem?_eq_getElem (by omega)]
      rfl
theorem rest_full {hs : List Horse} {m : Nat} : ∀ {n : Nat}, n ≤ m → restTo hs (2 ^ m - 1) n = []
  | 0, _ => by simp [restTo]
  | n + 1, h => by rw [restTo_succ, bitB_full (by omega), cond_true, rest_full (by omega)]
theorem out_full {m : Nat} : ∀ {n : Nat}, n ≤ m → outTo (2 ^ m - 1) n = (List.range n).map fun (i : Nat) => (i : Int)
  | 0, _ => by simp [outTo]
  | n + 1, h => by
    rw [outTo_succ, bitB_full (by omega), cond_true, out_full (by omega), List.range_succ, List.map_append]
    rfl
theorem HBook.rest_good {b : HBook} (g : GoodB b) (set : Nat) : GoodB (b.rest set) := K.rest_good g (Nat.le_refl _)
theorem HBook.served_nil {b : HBook} (h : b.horses = []) : b.served = true := by
  unfold HBook.served HBook.plans
  rw [h]
  rfl
/-- The book itself: a set of nobody. -/
theorem HBook.rest_zero {b : HBook} : b.rest 0 = b := by
  show HBook.mk b.hanks (restTo b.horses 0 b.horses.length) b.dark b.near b.mat = b
  rw [K.rest_zero (Nat.le_refl _), List.take_length]
theorem HBook.rest_out {b : HBook} {j : Nat} (h : outTo j b.horses.length = []) : b.rest j = b := by
  show HBook.mk b.hanks (restTo b.horses j b.horses.length) b.dark b.near b.mat = b
  rw [rest_of_out (Nat.le_refl _) h, List.take_length]
/-- For whom there is no hair: the others are served; without others that are fewer, or as many and before, they are not. -/
theorem HBook.lacks_law {b : HBook} (hv : b.valid = true) : (∃ j, j < 2 ^ b.horses.length ∧ (b.rest j).served = true ∧ b.lacksV = outTo j b.horses.length) ∧ ∀ j, j < 2 ^ b.horses.length → (b.rest j).served = true → shorterL (outTo j b.horses.length) b.lacksV = false := by
  have inv := lackTo_inv (b := b) (2 ^ b.horses.length)
  have e : b.lacksV = (b.lackTo (2 ^ b.horses.length)).1 := by unfold HBook.lacksV; rw [hv]; rfl
  have hp : 0 < 2 ^ b.horses.length := Nat.pow_pos (by decide)
  have hf := inv.least (2 ^ b.horses.length - 1) (by omega) (HBook.served_nil (show restTo b.horses _ _ = [] from rest_full (Nat.le_refl _)))
  rw [e]
  exact ⟨inv.some hf.1, fun j hj hs => (inv.least j hj hs).2⟩
theorem HBook.lacks_nil {b : HBook} (hv : b.valid = true) : b.lacksV = [] ↔ b.served = true := by
  obtain ⟨⟨j, h1, h2, h3⟩, h4⟩ := b.lacks_law hv
  constructor
  · intro h
    rw [h] at h3
    rw [HBook.rest_out h3.symm] at h2
    exact h2
  · intro h
    have := h4 0 (Nat.pow_pos (by decide)) (by rw [HBook.rest_zero]; exact h)
    rw [out_zero] at this
    cases hl : b.lacksV with
    | nil => rfl
    | cons x l => rw [hl] at this; simp [shorterL] at this
theorem HBook.lacks_len {b : HBook} (hv : b.valid = true) : b.lacksV.length ≤ b.horses.length := by
  obtain ⟨⟨j, h1, h2, h3⟩, _⟩ := b.lacks_law hv
  rw [h3]
  exact outTo_len
theorem HBook.best_err {b : HBook} (hv : b.valid = true) : b.bestE = bif b.served then 0 else 4 := by
  unfold HBook.bestE
  rw [hv, b.best_found]
  rfl
theorem HBook.best_val {b : HBook} (hv : b.valid = true) : b.bestV = bif b.served then b.bestP.1 else [] := by
  unfold HBook.bestV
  rw [HBook.best_err hv]
  cases b.served <;> rfl
/-- Without hanks just nobody is served. -/
theorem HBook.served_bare {b : HBook} (g : GoodB b) (h : b.hanks.length = 0) (hs : b.served = true) : b.horses = [] := by
  obtain ⟨p, hp⟩ := (b.served_iff g).1 hs
  obtain ⟨h1, h2⟩ := HBook.isPlan_iff.1 hp.is
  cases hh : b.horses with
  | nil => rfl
  | cons x l =>
    rw [hh] at h1
    simp only [List.length_cons] at h1
    have := h2 _ (getD_mem (d := 0) (k := 0) (by omega))
    omega
theorem HBook.lacks_bare {b : HBook} (hv : b.valid = true) (h : b.hanks.length = 0) : b.lacksV.length = b.horses.length := by
  have g := (GoodB.of_valid hv).1
  obtain ⟨⟨j, h1, h2, h3⟩, _⟩ := b.lacks_law hv
  have h4 := HBook.served_bare (b.rest_good g j) h h2
  have h5 : restTo b.horses j b.horses.length = [] := h4
  have key : ∀ n, (outTo j n).length + (restTo b.horses j n).length = n := by
    intro n
    induction n with
    | zero => simp [outTo, restTo]
    | succ n ih =>
      rw [outTo_succ, restTo_succ]
      cases bitB j n <;> simp <;> omega
  have := key b.horses.length
  rw [h5, ← h3] at this
  simpa using this
/-! ### A book that serves no less than another one -/
/-- Hanks of one book stand for hanks of another one. -/
structure Stands (b c : HBook) (up up' : Bool) (σ : Nat → Nat) : Prop where
  horses : c.horses = b.horses
  lt : ∀ k, k < b.hanks.length → σ k < c.hanks.length
  inj : ∀ j k, j < b.hanks.length → k < b.hanks.length → σ j = σ k → j = k
  at_ : ∀ k, k < b.hanks.length → (b.hanks.getD k Hank0).at up ≤ (c.hanks.getD (σ k) Hank0).at up'
  sure : ∀ (n j k : Nat), n < b.horses.length → j < b.hanks.length → k < b.hanks.length → b.sure n j k = true → c.sure n (σ j) (σ k) = true
theorem HBook.part_eq {b c : HBook} (h : c.horses = b.horses) {n : Nat} : c.part n = b.part n := by unfold HBook.part; rw [h]
theorem cut_map {b c : HBook} (h : c.horses = b.horses) (gb : GoodB b) (gc : GoodB c) {σ : Nat → Nat} (hlt : ∀ k, k < b.hanks.length → σ k < c.hanks.length) (hinj : ∀ j k, j < b.hanks.length → k < b.hanks.length → σ j = σ k → j = k) {p : List Int} (hp : ∀ x ∈ p, 0 ≤ x ∧ x < b.hanks.length) :
    ∀ {n : Nat}, n ≤ p.length → (∀ k, k < b.hanks.length → (c.cutTo (p.map fun x => (σ x.toNat : Int)) n).getD (σ k) 0 = (b.cutTo p n).getD k 0) ∧ ∀ j, j < c.hanks.length → (∀ k, k < b.hanks.length → σ k ≠ j) → (c.cutTo (p.map fun x => (σ x.toNat : Int)) n).getD j 0 = 0
  | 0, _ => by
    have hz : ∀ j, zero5.getD j 0 = 0 := by
      intro j
      match j with
      | 0 | 1 | 2 | 3 | 4 => rfl
      | n + 5 => rfl
    exact ⟨fun k _ => (hz _).trans (hz _).symm, fun j _ _ => hz _⟩
  | n + 1, hn => by
    obtain ⟨h1, h2⟩ := cut_map h gb gc hlt hinj hp (n := n) (by omega)
    have g1 := gb.l1
    have g2 := gc.l1
    have hx := hp _ (getD_mem (d := 0) (k := n) (l := p) (by omega))
    have e : (p.map fun x => (σ x.toNat : Int)).getD n 0 = (σ (p.getD n 0).toNat : Int) := by
      rw [List.getD_eq_getElem?_getD, List.getElem?_map, List.getD_eq_getElem?_getD, List.getElem?_eq_getElem (by omega)]
      rfl
    have hs := hlt (p.getD n 0).toNat (by omega)
    constructor
    · intro k hk
      have hk2 := hlt k hk
      rw [HBook.cutTo_succ, HBook.cutTo_succ, addAt_get, addAt_get, e, HBook.cutTo_len, HBook.cutTo_len, h1 k hk, HBook.part_eq h]
      by_cases e2 : k = (p.getD n 0).toNat
      · rw [if_pos ⟨by rw [← e2]; omega, by omega⟩, if_pos ⟨e2, by omega⟩]
      · rw [if_neg (fun hc => e2 (hinj _ _ hk (by omega) (by omega))), if_neg (fun hc => e2 hc.1)]
    · intro j hj hne
      rw [HBook.cutTo_succ, addAt_get, e, if_neg (fun hc => hne (p.getD n 0).toNat (by omega) (by omega))]
      exact h2 j hj hne
theorem Stands.works {b c : HBook} {up up' : Bool} {σ : Nat → Nat} (s : Stands b c up up' σ) (gb : GoodB b) (gc : GoodB c) {p : List Int} (hw : b.WorksAt up p) : c.WorksAt up' (p.map fun x => (σ x.toNat : Int)) := by
  obtain ⟨hl, hm⟩ := HBook.isPlan_iff.1 hw.is
  obtain ⟨h1, h2⟩ := cut_map s.horses gb gc s.lt s.inj hm (n := p.length) (Nat.le_refl _)
  have e : c.cutOf (p.map fun x => (σ x.toNat : Int)) = c.cutTo (p.map fun x => (σ x.toNat : Int)) p.length := by unfold HBook.cutOf; rw [List.length_map]
  have eg : ∀ n, n < p.length → (p.map fun x => (σ x.toNat : Int)).getD n 0 = (σ (p.getD n 0).toNat : Int) := by
    intro n hn
    rw [List.getD_eq_getElem?_getD, List.getElem?_map, List.getD_eq_getElem?_getD, List.getElem?_eq_getElem hn]
    rfl
  refine ⟨HBook.isPlan_iff.2 ⟨by rw [List.length_map, s.horses]; exact hl, fun x hx => ?_⟩, fun j hj => ?_, fun n hn => ?_⟩
  · obtain ⟨y, hy, rfl⟩ := List.mem_map.1 hx
    have h3 := hm y hy
    have := s.lt y.toNat (by omega)
    exact ⟨by omega, by omega⟩
  · rw [e]
    by_cases hj2 : ∃ k, k < b.hanks.length ∧ σ k = j
    · obtain ⟨k, hk, rfl⟩ := hj2
      rw [h1 k hk]
      exact Int.le_trans (hw.fit k hk) (s.at_ k hk)
    · rw [h2 j hj (fun k hk e2 => hj2 ⟨k, hk, e2⟩)]
      have := Hank.at_bd gc (up := up') hj
      omega
  · rw [s.horses] at hn
    have h3 := hw.pair n hn
    rw [eg _ (by omega), eg _ (by omega)]
    have h4 := hm _ (getD_mem (d := 0) (k := 2 * n) (l := p) (by omega))
    have h5 := hm _ (getD_mem (d := 0) (k := 2 * n + 1) (l := p) (by omega))
    refine s.sure n _ _ hn (by omega) (by omega) ?_
    rw [show (((p.getD (2 * n) 0).toNat : Nat) : Int) = p.getD (2 * n) 0 by omega, show (((p.getD (2 * n + 1) 0).toNat : Nat) : Int) = p.getD (2 * n + 1) 0 by omega]
    exact h3
/-- What the plan cuts of a hank that stands for another one. -/
theorem Stands.cut {b c : HBook} {up up' : Bool} {σ : Nat → Nat} (s : Stands b c up up' σ) (gb : GoodB b) (gc : GoodB c) {p : List Int} (hw : b.WorksAt up p) {k : Nat} (hk : k < b.hanks.length) : (c.cutOf (p.map fun x => (σ x.toNat : Int))).getD (σ k) 0 = (b.cutOf p).getD k 0 := by
  obtain ⟨hl, hm⟩ := HBook.isPlan_iff.1 hw.is
  obtain ⟨h1, _⟩ := cut_map s.horses gb gc s.lt s.inj hm (n := p.length) (Nat.le_refl _)
  unfold HBook.cutOf
  rw [List.length_map]
  exact h1 k hk
theorem Stands.served {b c : HBook} {σ : Nat → Nat} (s : Stands b c false false σ) (gb : GoodB b) (gc : GoodB c) (h : b.served = true) : c.served = true := by
  obtain ⟨p, hp⟩ := (b.served_iff gb).1 h
  exact (c.served_iff gc).2 ⟨_, s.works gb gc hp⟩
/-! ### Steps -/
theorem fs_some {β : Type} {F : Nat → Option β} : ∀ {D : Nat}, ((List.range D).findSome? F).isSome = true ↔ ∃ k, k < D ∧ (F k).isSome = true
  | 0 => by simp
  | D + 1 => by
    rw [fs_succ, Option.isSome_or, Bool.or_eq_true, fs_some]
    constructor
    · rintro (⟨k, h1, h2⟩ | h)
      · exact ⟨k, by omega, h2⟩
      · exact ⟨D, by omega, h⟩
    · rintro ⟨k, h1, h2⟩
      by_cases e : k = D
      · subst e; exact .inr h2
      · exact .inl ⟨k, by omega, h2⟩
theorem HBook.sure_iff {b : HBook} {i mh th : Int} : b.sure i mh th = true ↔ ∃ m t : Nat, (m : Int) ≤ b.dark ∧ (t : Int) ≤ b.dark ∧ b.mt i mh m th t = true := by
  unfold HBook.sure HBook.dy
  rw [fs_some]
  constructor
  · rintro ⟨m, h1, h2⟩
    unfold HBook.dyM at h2
    rw [fs_some] at h2
    obtain ⟨t, h3, h4⟩ := h2
    unfold HBook.dyT at h4
    refine ⟨m, t, by omega, by omega, ?_⟩
    cases hm : b.mt i mh m th t with
    | true => rfl
    | false => rw [hm] at h4; cases h4
  · rintro ⟨m, t, h1, h2, h3⟩
    refine ⟨m, by omega, ?_⟩
    unfold HBook.dyM
    rw [fs_some]
    refine ⟨t, by omega, ?_⟩
    unfold HBook.dyT
    rw [h3]
    rfl
/-- When parts match, as it is said of numbers. -/
theorem HBook.mt_iff {b : HBook} {i mh ms th ts : Int} : b.mt i mh ms th ts = true ↔ ((b.hank mh).s.hi + ms - (b.horse i).shade ≤ b.near ∧ (b.horse i).shade - ((b.hank mh).s.lo + ms) ≤ b.near ∧ (b.hank th).s.hi + ts - (b.horse i).shade ≤ b.near ∧ (b.horse i).shade - ((b.hank th).s.lo + ts) ≤ b.near) ∧ (mh = th → ms = ts ∨ (-b.mat ≤ ms - ts ∧ ms - ts ≤ b.mat)) ∧ (mh ≠ th → (b.hank mh).s.hi + ms - ((b.hank th).s.lo + ts) ≤ b.mat ∧ (b.hank th).s.hi + ts - ((b.hank mh).s.lo + ms) ≤ b.mat) := by
  have e : b.mt i mh ms th ts = if b.near < max (max (max ((b.hank mh).s.hi + ms - (b.horse i).shade) ((b.horse i).shade - ((b.hank mh).s.lo + ms))) ((b.hank th).s.hi + ts - (b.horse i).shade)) ((b.horse i).shade - ((b.hank th).s.lo + ts)) then false else if mh = th then decide ([mh, ms] = [th, ts]) || (decide (-b.mat ≤ ms - ts) && decide (ms - ts ≤ b.mat)) else decide (max ((b.hank mh).s.hi + ms - ((b.hank th).s.lo + ts)) ((b.hank th).s.hi + ts - ((b.hank mh).s.lo + ms)) ≤ b.mat) := rfl
  rw [e]
  by_cases h : b.near < max (max (max ((b.hank mh).s.hi + ms - (b.horse i).shade) ((b.horse i).shade - ((b.hank mh).s.lo + ms))) ((b.hank th).s.hi + ts - (b.horse i).shade)) ((b.horse i).shade - ((b.hank th).s.lo + ts))
  · rw [if_pos h]
    simp only [Bool.false_eq_true, false_iff]
    rintro ⟨h1, _⟩
    omega
  · rw [if_neg h]
    by_cases e : mh = th
    · rw [if_pos e]
      subst e
      simp only [Bool.or_eq_true, Bool.and_eq_true, decide_eq_true_eq, List.cons.injEq, and_true, true_and, ne_eq, not_true_eq_false, false_implies]
      constructor
      · intro h2; exact ⟨by omega, fun _ => h2⟩
      · rintro ⟨_, h2⟩; exact h2 trivial
    · rw [if_neg e, decide_eq_true_eq]
      constructor
      · intro h2; exact ⟨by omega, fun e2 => absurd e2 e, fun _ => by omega⟩
      · rintro ⟨_, _, h2⟩; have := h2 e; omega
/-- Hanks whose shades are no wider, and as far to go or farther: what surely matches does so still. -/
theorem sure_narrow {b c : HBook} {n : Int} {mh th mh' th' : Int} (hx : (c.horse n).shade = (b.horse n).shade) (hd : b.dark ≤ c.dark) (hn : c.near = b.near) (hm : c.mat = b.mat) (heq : mh' = th' ↔ mh = th)
    (h1 : (b.hank mh).s.lo ≤ (c.hank mh').s.lo ∧ (c.hank mh').s.hi ≤ (b.hank mh).s.hi) (h2 : (b.hank th).s.lo ≤ (c.hank th').s.lo ∧ (c.hank th').s.hi ≤ (b.hank th).s.hi) (h : b.sure n mh th = true) : c.sure n mh' th' = true := by
  obtain ⟨m, t, k1, k2, k3⟩ := HBook.sure_iff.1 h
  refine HBook.sure_iff.2 ⟨m, t, by omega, by omega, ?_⟩
  rw [HBook.mt_iff] at k3 ⊢
  rw [hx, hn, hm]
  obtain ⟨a1, a2, a3⟩ := k3
  refine ⟨by omega, fun e => a2 (heq.1 e), fun e => ?_⟩
  have := a3 (fun e2 => e (heq.2 e2))
  omega
end K
end Go.Proofs.YtofpabocpcfbfaaDoor

/- Rules whose truth value is given. Conditions: none. -/
namespace Go.Proofs.YtofpabocpcfbfaaDoor
namespace K
open Go
section
variable {P : Program} {ro : Option Nat} {N : Nat} {ops : Array Oper} {Q : Post} {f : FV} {ds : List Deferred} {w : World} {rest : List Oper}
variable {d : Nat} {ty : TypeId} {pos : String} {af : Array Edge} {g : Option (Nat × Bool)} {t : TypeId}
theorem r_eqlsv {x y : Operand} {a b : List Int} {n : Nat} {v : Bool} {yt : TypeId} (ht : ikB P t n = true) (hm : P.eqGuardType P.depth t = false) (hx : ev f x = kv a) (hy : ev f y = kv b) (ha : a.length = n) (hb : b.length = n) (hv : decide (a = b) = v) (hw : Wanted ops f g = true) (hd : Nat.blt d N = true)
    (h : WPL P ro N ops Q rest (upd f d (.bool v)) ds w) : WPL P ro N ops Q (⟨some d, .binOp .eql t x y yt, ty, pos, af, g⟩ :: rest) f ds w :=
  r_eqls ht hm hx hy ha hb hw hd (by subst hv; exact h)
theorem r_neqsv {x y : Operand} {a b : List Int} {n : Nat} {v : Bool} {yt : TypeId} (ht : ikB P t n = true) (hm : P.eqGuardType P.depth t = false) (hx : ev f x = kv a) (hy : ev f y = kv b) (ha : a.length = n) (hb : b.length = n) (hv : (!decide (a = b)) = v) (hw : Wanted ops f g = true) (hd : Nat.blt d N = true)
    (h : WPL P ro N ops Q rest (upd f d (.bool v)) ds w) : WPL P ro N ops Q (⟨some d, .binOp .neq t x y yt, ty, pos, af, g⟩ :: rest) f ds w :=
  r_neqs ht hm hx hy ha hb hw hd (by subst hv; exact h)
theorem r_neqv {x y : Operand} {k : IntKind} {a b : Int} {v : Bool} {yt : TypeId} (hx : ev f x = .int k a) (hy : ev f y = .int k b) (hv : decide (a = b) = !v) (hw : Wanted ops f g = true) (hd : Nat.blt d N = true)
    (h : WPL P ro N ops Q rest (upd f d (.bool v)) ds w) : WPL P ro N ops Q (⟨some d, .binOp .neq t x y yt, ty, pos, af, g⟩ :: rest) f ds w :=
  r_neq hx hy hw hd (by
    have : decide (a ≠ b) = v := by rw [decide_not, hv, Bool.not_not]
    first | (rw [hv, Bool.not_not]; exact h) | (rw [this]; exact h))
theorem r_geqv {x y : Operand} {k : IntKind} {a b : Int} {v : Bool} {yt : TypeId} (hx : ev f x = .int k a) (hy : ev f y = .int k b) (hv : decide (b ≤ a) = v) (hw : Wanted ops f g = true) (hd : Nat.blt d N = true)
    (h : WPL P ro N ops Q rest (upd f d (.bool v)) ds w) : WPL P ro N ops Q (⟨some d, .binOp .geq t x y yt, ty, pos, af, g⟩ :: rest) f ds w :=
  r_geq hx hy hw hd (by subst hv; exact h)
theorem r_lssv {x y : Operand} {k : IntKind} {a b : Int} {v : Bool} {yt : TypeId} (hx : ev f x = .int k a) (hy : ev f y = .int k b) (hv : decide (a < b) = v) (hw : Wanted ops f g = true) (hd : Nat.blt d N = true)
    (h : WPL P ro N ops Q rest (upd f d (.bool v)) ds w) : WPL P ro N ops Q (⟨some d, .binOp .lss t x y yt, ty, pos, af, g⟩ :: rest) f ds w :=
  r_lss hx hy hw hd (by subst hv; exact h)
theorem r_eqlbv {x y : Operand} {a b v : Bool} {yt : TypeId} (ht : P.underlying t = some .bool) (hx : ev f x = .bool a) (hy : ev f y = .bool b) (hv : (a == b) = v) (hw : Wanted ops f g = true) (hd : Nat.blt d N = true)
    (h : WPL P ro N ops Q rest (upd f d (.bool v)) ds w) : WPL P ro N ops Q (⟨some d, .binOp .eql t x y yt, ty, pos, af, g⟩ :: rest) f ds w :=
  r_eqlb ht hx hy hw hd (by subst hv; exact h)
theorem r_neqbv {x y : Operand} {a b v : Bool} {yt : TypeId} (ht : P.underlying t = some .bool) (hx : ev f x = .bool a) (hy : ev f y = .bool b) (hv : (a == b) = !v) (hw : Wanted ops f g = true) (hd : Nat.blt d N = true)
    (h : WPL P ro N ops Q rest (upd f d (.bool v)) ds w) : WPL P ro N ops Q (⟨some d, .binOp .neq t x y yt, ty, pos, af, g⟩ :: rest) f ds w :=
  r_neqb ht hx hy hw hd (by
    first | (rw [bne, hv, Bool.not_not]; exact h) | (rw [hv, Bool.not_not]; exact h))
theorem r_movev {x : Operand} {b v : Bool} (hx : ev f x = .bool b) (hv : b = v) (hw : Wanted ops f g = true) (hd : Nat.blt d N = true) (h : WPL P ro N ops Q rest (upd f d (.bool v)) ds w) :
    WPL P ro N ops Q (⟨some d, .move x, ty, pos, af, g⟩ :: rest) f ds w := r_move (hx.trans (by rw [hv])) hw hd h
end
theorem RdRow.cast {α : Type} {enc : α → List Value} {sz : Nat} {w : World} {A : Option Addr} {n m : Nat} {xs : List α} (h : RdRow enc sz w A n xs) (e : n = m) : RdRow enc sz w A m xs := e ▸ h
end K
end Go.Proofs.YtofpabocpcfbfaaDoor

/- Plain laws behind the helpers of the statements: lists compared, found, without some. Conditions: none. -/
namespace Go.Proofs.YtofpabocpcfbfaaDoor
namespace K
open Go
theorem lessL_at {xs ys : List Int} {k : Nat} (h : lessL xs ys = lessL (xs.drop k) (ys.drop k)) (hx : k < xs.length) (hy : k < ys.length) : (xs.getD k 0 = ys.getD k 0 → lessL xs ys = lessL (xs.drop (k + 1)) (ys.drop (k + 1))) ∧ (xs.getD k 0 ≠ ys.getD k 0 → lessL xs ys = decide (xs.getD k 0 < ys.getD k 0)) := by
  rw [h, drop_get hx, drop_get hy]
  constructor
  · intro e; rw [lessL]; first | rw [if_pos e] | rw [if_neg e]
  · intro e; rw [lessL]; first | rw [if_pos e] | rw [if_neg e]
theorem lessL_end {xs ys : List Int} {k : Nat} (h : lessL xs ys = lessL (xs.drop k) (ys.drop k)) (h1 : k ≤ xs.length) (h2 : k ≤ ys.length) (he : xs.length ≤ k ∨ ys.length ≤ k) : lessL xs ys = decide (xs.length < ys.length) := by
  rw [h]
  rcases he with he | he
  · rw [List.drop_of_length_le he]
    cases hd : ys.drop k with
    | nil =>
      have : ys.length - k = 0 := by rw [← List.length_drop, hd]; rfl
      exact (decide_eq_false (by omega)).symm
    | cons y l =>
      have : ys.length - k = l.length + 1 := by rw [← List.length_drop, hd]; rfl
      exact (decide_eq_true (by omega)).symm
  · rw [List.drop_of_length_le he]
    rw [decide_eq_false (by omega)]
    cases xs.drop k <;> rfl
def lastOf (xs : List Int) (k : Nat) : Int := if k = 0 then -1 else xs.getD (k - 1) 0
theorem lastOf_succ {xs : List Int} {k : Nat} : lastOf xs (k + 1) = xs.getD k 0 := rfl
/-- Each element from 0 to below a number, and greater than the one before. -/
def Grows (xs : List Int) (below : Int) : Prop := ∀ k, k < xs.length → lastOf xs k < xs.getD k 0 ∧ xs.getD k 0 < below
theorem outTo_mem {set n : Nat} {x : Int} : x ∈ outTo set n ↔ ∃ i : Nat, i < n ∧ bitB set i = true ∧ x = i := by
  unfold outTo
  simp only [List.mem_map, List.mem_filter, List.mem_range]
  constructor
  · rintro ⟨i, ⟨h1, h2⟩, rfl⟩; exact ⟨i, h1, h2, rfl⟩
  · rintro ⟨i, h1, h2, rfl⟩; exact ⟨i, ⟨h1, h2⟩, rfl⟩
theorem outTo_grows {set : Nat} : ∀ {n : Nat}, Grows (outTo set n) n
  | 0 => fun k hk => by simp [outTo] at hk
  | n + 1 => by
    have ih := outTo_grows (set := set) (n := n)
    rw [outTo_succ]
    cases hb : bitB set n with
    | false => intro k hk; have := ih k hk; exact ⟨this.1, by have := this.2; rw [cond_false]; omega⟩
    | true =>
      rw [cond_true]
      intro k hk
      rw [List.length_append, List.length_singleton] at hk
      have hl : lastOf (outTo set n ++ [(n : Int)]) k = lastOf (outTo set n) k := by
        unfold lastOf
        split
        · rfl
        · exact getD_snoc' (by omega)
      rw [hl]
      by_cases e : k < (outTo set n).length
      · rw [getD_snoc' e]
        have := ih k e
        omega
      · have e2 : k = (outTo set n).length := by omega
        subst e2
        rw [getD_snoc]
        refine ⟨?_, by omega⟩
        unfold lastOf
        split
        · omega
        · have := (ih ((outTo set n).length - 1) (by omega)).2
          omega
theorem bit_in {set n i : Nat} (h : i < n) : decide ((i : Int) ∈ outTo set n) = bitB set i := by
  cases hb : bitB set i with
  | true => exact decide_eq_true (outTo_mem.2 ⟨i, h, hb, rfl⟩)
  | false =>
    refine decide_eq_false fun hm => ?_
    obtain ⟨j, _, h2, h3⟩ := outTo_mem.1 hm
    have : i = j := by omega
    subst this
    rw [hb] at h2
    cases h2
theorem notin_succ {xs : List Int} {x : Int} {k : Nat} (hk : k < xs.length) (h : ∀ j, j < k → xs.getD j 0 ≠ x) (hx : xs.getD k 0 ≠ x) : ∀ j, j < k + 1 → xs.getD j 0 ≠ x := fun j hj => by
  by_cases e : j = k
  · subst e; exact hx
  · exact h j (by omega)
theorem notin_end {xs : List Int} {x : Int} {k : Nat} (hk : xs.length ≤ k) (h : ∀ j, j < k → xs.getD j 0 ≠ x) : decide (x ∈ xs) = false := decide_eq_false fun hm => by
  obtain ⟨i, hi, e⟩ := List.mem_iff_getElem.1 hm
  refine h i (by omega) ?_
  rw [List.getD_eq_getElem?_getD, List.getElem?_eq_getElem hi]
  exact e
theorem in_at {xs : List Int} {x : Int} {k : Nat} (hk : k < xs.length) (e : xs.getD k 0 = x) : decide (x ∈ xs) = true := decide_eq_true (e ▸ getD_mem hk)
/-- A hank that a law adds. -/
def addHank (oz s : Int) : Hank := ⟨⟨oz, oz⟩, ⟨s, s⟩⟩
abbrev HBook.add (b : HBook) (oz s : Int) : HBook := { b with hanks := b.hanks ++ [addHank oz s] }
end K
end Go.Proofs.YtofpabocpcfbfaaDoor

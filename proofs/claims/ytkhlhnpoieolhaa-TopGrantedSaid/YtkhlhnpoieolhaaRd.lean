/-
  Words of my own: slices that are read (Rd), rows of the call's own that are appended to (Reg.row), a block that a callee turns (Upd).
-/
import Derived.Test.YtkhlhnpoieolhaaRt
namespace Go.Proofs.Ytkhlhnpoieolhaa
open Go.RowKit

/-- The slice with address a and n elements, each of sz cells, reads as l; f tells an element's cells. -/
def Rd {α : Type} (f : α → List Value) (sz : Nat) (w : World) (a : Option Addr) (n : Nat) (l : List α) : Prop :=
  l.length = n ∧ n ≤ maxLen ∧ (0 < n → ∃ b off, a = some ⟨b, off, none⟩ ∧ ∀ (i : Nat) (x : α), l[i]? = some x → ∀ (j : Nat) (v : Value), (f x)[j]? = some v → w.cell? ⟨b, off + i * sz + j, none⟩ = some v)

theorem Rd.nil {α : Type} (f : α → List Value) (sz : Nat) (w : World) (a : Option Addr) : Rd f sz w a 0 [] := ⟨rfl, Nat.zero_le _, fun h => absurd h (Nat.lt_irrefl _)⟩
theorem Rd.len {α : Type} {f : α → List Value} {sz : Nat} {w : World} {a : Option Addr} {n : Nat} {l : List α} (h : Rd f sz w a n l) : l.length = n := h.1
theorem Rd.same {α : Type} {f : α → List Value} {sz : Nat} {w w' : World} {a : Option Addr} {n : Nat} {l : List α} (h : Rd f sz w a n l) (hs : ∀ x, a = some x → w'.heap[x.block]? = w.heap[x.block]?) : Rd f sz w' a n l := by
  refine ⟨h.1, h.2.1, fun hn => ?_⟩
  obtain ⟨b, off, e, hc⟩ := h.2.2 hn
  exact ⟨b, off, e, fun i x hx j v hv => (World.cell?_of_block (w := w) (a := ⟨b, off + i * sz + j, none⟩) (hs ⟨b, off, none⟩ e)).trans (hc i x hx j v hv)⟩
/-- Its block is there, where an element has a cell. -/
theorem Rd.lt {α : Type} {f : α → List Value} {sz : Nat} {w : World} {a : Option Addr} {n : Nat} {l : List α} (h : Rd f sz w a n l) (hf : ∀ x, 0 < (f x).length) (hn : 0 < n) : ∃ b off, a = some ⟨b, off, none⟩ ∧ b < w.heap.size := by
  obtain ⟨b, off, e, hc⟩ := h.2.2 hn
  have h0 : 0 < l.length := by rw [h.1]; exact hn
  have := hc 0 l[0] (List.getElem?_eq_getElem h0) 0 ((f l[0])[0]'(hf _)) (List.getElem?_eq_getElem (hf _))
  exact ⟨b, off, e, World.block_lt_of_cell? w _ this⟩
theorem Rd.below {α : Type} {f : α → List Value} {sz : Nat} {w w' : World} {a : Option Addr} {n : Nat} {l : List α} (h : Rd f sz w a n l) (hb : Below w.heap.size w w') : Rd f sz w' a n l := by
  refine ⟨h.1, h.2.1, fun hn => ?_⟩
  obtain ⟨b, off, e, hc⟩ := h.2.2 hn
  exact ⟨b, off, e, fun i x hx j v hv => keepS hb (hc i x hx j v hv)⟩
theorem Rd.st {α : Type} {f : α → List Value} {sz : Nat} {w0 w : World} {L : List Reg} {a : Option Addr} {n : Nat} {l : List α} (h : Rd f sz w0 a n l) (hs : St w0.heap.size w0 w L) : Rd f sz w a n l := h.below hs.below

/-- Bytes. -/
def byteC (x : Int) : List Value := [.int .u8 x]
abbrev RdB (w : World) (a : Option Addr) (n : Nat) (l : List Int) : Prop := Rd byteC 1 w a n l
theorem RdB.cell {w : World} {a : Option Addr} {n : Nat} {l : List Int} (h : RdB w a n l) {i : Nat} (hi : i < n) : ∃ b off, a = some ⟨b, off, none⟩ ∧ w.cell? ⟨b, off + i, none⟩ = some (.int .u8 (l.getD i 0)) := by
  obtain ⟨b, off, e, hc⟩ := h.2.2 (by omega)
  have h0 : i < l.length := by rw [h.1]; exact hi
  have := hc i l[i] (List.getElem?_eq_getElem h0) 0 (.int .u8 l[i]) rfl
  refine ⟨b, off, e, ?_⟩
  simpa [List.getD, List.getElem?_eq_getElem h0] using this

/-- A row of the call's own in the blocks lo to hi - 1: what v's n elements are; it may be written and appended to. -/
def Reg.row (lo hi : Nat) (v : Value) (e : TypeId) (sz n : Nat) (xs : List Value) : Reg := ⟨lo, hi, fun w => w.ownsRow lo e sz v n xs ∧ ∀ g, v.ownBlock = some g → g < hi⟩
theorem Reg.row_ok (lo hi : Nat) (v : Value) (e : TypeId) (sz n : Nat) (xs : List Value) : (Reg.row lo hi v e sz n xs).ok := by
  rintro w w' hs ⟨⟨h1, h2⟩, h3⟩
  refine ⟨⟨h1, ?_⟩, h3⟩
  rcases h2 with h2 | ⟨g, cap, cur, hv, hg, hh, r⟩
  · exact .inl h2
  · exact .inr ⟨g, cap, cur, hv, hg, (hs g hg (h3 g (by simp [hv, Value.ownBlock]))).trans hh, r⟩
theorem St.rowNil {B : Nat} {w0 w : World} {L : List Reg} (h : St B w0 w L) (e : TypeId) (sz : Nat) : St B w0 w (Reg.row w.heap.size w.heap.size (.slice none 0 0) e sz 0 [] :: L) := by
  have h' := h.extend (Below.refl w.heap.size w) (fun w' => w'.ownsRow w.heap.size e sz (.slice none 0 0) 0 [] ∧ ∀ g, Value.ownBlock (.slice none 0 0) = some g → g < w.heap.size) (Reg.row_ok _ _ _ _ _ _ _) ⟨World.ownsRow_nil _ _ _ _, fun g hg => (by simp [Value.ownBlock] at hg)⟩
  exact h'
/-- Behind an append to the row at the list's head. -/
theorem St.appended {B : Nat} {w0 w w' : World} {L : List Reg} {lo hi : Nat} {v v' : Value} {e : TypeId} {sz n n' : Nat} {xs xs' : List Value} (h : St B w0 w (Reg.row lo hi v e sz n xs :: L))
    (hown : w'.ownsRow lo e sz v' n' xs') (hg : w.grownBy w' v.ownBlock) (hat : v'.ownBlock = v.ownBlock ∨ v'.ownBlock = some w.heap.size) :
    ∃ lo' hi', St B w0 w' (Reg.row lo' hi' v' e sz n' xs' :: L) := by
  have hr := h.each _ (List.mem_cons_self ..)
  obtain ⟨r1, r2, r3, -, hA⟩ := hr
  have hap := List.pairwise_cons.1 h.apart
  have hsame : ∀ k, k < w.heap.size → (∀ g, v.ownBlock = some g → k ≠ g) → w'.heap[k]? = w.heap[k]? := fun k hk hne => hg.block k hk (fun e => hne k e.symm rfl)
  have hlt := hA.1.lt
  have hB : Below B w0 w' := h.below.grown hg h.size (fun k hk => Nat.le_trans r1 (hlt k hk).1)
  have hrest : ∀ r ∈ L, B ≤ r.lo ∧ r.lo ≤ r.hi ∧ r.hi ≤ w'.heap.size ∧ r.ok ∧ r.A w' := fun r hr => by
    obtain ⟨a1, a2, a3, a4, a5⟩ := h.each r (List.mem_cons_of_mem _ hr)
    refine ⟨a1, a2, Nat.le_trans a3 hg.size, a4, a4 _ _ (fun b hb1 hb2 => hsame b (by omega) (fun g hg' e => ?_)) a5⟩
    subst e
    have q1 := (hlt _ hg').1
    have q2 := hA.2 _ hg'
    rcases hap.1 r hr with q | q
    · simp only [Reg.row] at q; omega
    · simp only [Reg.row] at q; omega
  rcases hat with hat | hat
  · refine ⟨lo, hi, hB, Nat.le_trans h.size hg.size, fun r hr => ?_, List.Pairwise.cons (fun r hr => hap.1 r hr) hap.2⟩
    rcases List.mem_cons.1 hr with rfl | hr
    · exact ⟨r1, r2, Nat.le_trans r3 hg.size, Reg.row_ok _ _ _ _ _ _ _, hown, fun g hg' => hA.2 g (hat ▸ hg')⟩
    · exact hrest r hr
  · have hin := hown.lt _ hat
    refine ⟨w.heap.size, w'.heap.size, hB, Nat.le_trans h.size hg.size, fun r hr => ?_, List.Pairwise.cons (fun r hr => .inr (h.each r (List.mem_cons_of_mem _ hr)).2.2.1) hap.2⟩
    rcases List.mem_cons.1 hr with rfl | hr
    · refine ⟨h.size, hg.size, Nat.le_refl _, Reg.row_ok _ _ _ _ _ _ _, ⟨hown.1, ?_⟩, fun g hg' => (hown.lt g hg').2⟩
      rcases hown.2 with q | ⟨g, cap, cur, hv, hgl, hh, r⟩
      · exact .inl q
      · have : g = w.heap.size := by rw [hv] at hat; simpa [Value.ownBlock] using hat
        exact .inr ⟨g, cap, cur, hv, by omega, hh, r⟩
    · exact hrest r hr

theorem flat_get {α : Type} {f : α → List Value} {sz : Nat} (hf : ∀ x, (f x).length = sz) : ∀ (l : List α) (i : Nat) (x : α), l[i]? = some x → ∀ (j : Nat) (v : Value), (f x)[j]? = some v → (l.flatMap f)[i * sz + j]? = some v
  | [], _, _, h, _, _, _ => by simp at h
  | y :: l, 0, x, h, j, v, hv => by
    obtain rfl : y = x := by simpa using h
    have hj : j < (f y).length := (List.getElem?_eq_some_iff.1 hv).1
    simp [List.flatMap_cons, List.getElem?_append_left hj, hv]
  | y :: l, i + 1, x, h, j, v, hv => by
    have := flat_get hf l i x (by simpa using h) j v hv
    rw [List.flatMap_cons, List.getElem?_append_right (by rw [hf, Nat.succ_mul]; omega), hf, show (i + 1) * sz + j - sz = i * sz + j by rw [Nat.succ_mul]; omega]
    exact this
/-- A row of the call's own is read. -/
theorem rd_of_own {α : Type} {f : α → List Value} {sz : Nat} (hf : ∀ x, (f x).length = sz) {w : World} {base : Nat} {e : TypeId} {v : Value} {n : Nat} {l : List α} (h : w.ownsRow base e sz v n (l.flatMap f)) (hl : l.length = n) :
    ∃ a c, v = .slice a n c ∧ Rd f sz w a n l := by
  rcases h.2 with ⟨rfl, rfl⟩ | ⟨g, cap, cur, rfl, hb, hh, h1, h2, h3, h4⟩
  · obtain rfl : l = [] := List.eq_nil_of_length_eq_zero hl
    exact ⟨none, 0, rfl, Rd.nil _ _ _ _⟩
  · refine ⟨_, cap, rfl, hl, Nat.le_trans h1 h2, fun hn => ⟨g, 0, rfl, fun i x hx j v hv => ?_⟩⟩
    have := flat_get hf l i x hx j v hv
    have hc := h.cells (g := g) rfl _ _ this
    have ha : (⟨g, 0, none⟩ : Addr).add (i * sz + j) = ⟨g, i * sz + j, none⟩ := by unfold Addr.add; split <;> simp_all
    rw [ha] at hc
    simpa using hc

/-- One block may be turned; what it is then. -/
structure Upd (g : Nat) (o : Obj) (w w' : World) : Prop where
  os : w'.os = w.os
  tape : w'.tape = w.tape
  output : w'.output = w.output
  size : w.heap.size ≤ w'.heap.size
  block : ∀ k, k < w.heap.size → k ≠ g → w'.heap[k]? = w.heap[k]?
  it : w'.heap[g]? = some o
theorem Upd.refl {g : Nat} {o : Obj} {w : World} (h : w.heap[g]? = some o) : Upd g o w w := ⟨rfl, rfl, rfl, Nat.le_refl _, fun _ _ _ => rfl, h⟩
theorem Upd.drew {g : Nat} {o : Obj} {w w' : World} (h : Upd g o w w') : Upd g o w w'.drew := ⟨h.os, h.tape, h.output, h.size, h.block, h.it⟩
theorem Upd.drewN {g : Nat} {o : Obj} {w w' : World} (h : Upd g o w w') (n : Nat) : Upd g o w (w'.drewN n) := ⟨h.os, h.tape, h.output, h.size, h.block, h.it⟩
theorem Upd.setCell {g : Nat} {cs : Array Value} {t : TypeId} {fr : Nat × Nat} {w w' : World} (h : Upd g (.cells cs t fr) w w') (o : Nat) (v : Value) : Upd g (.cells (cs.setIfInBounds o v) t fr) w (w'.setCell ⟨g, o, none⟩ v) :=
  ⟨h.os, h.tape, h.output, by simpa using h.size, fun k hk hne => (Below.heap_setCell _ _ _ _ hne).trans (h.block k hk hne), heap_set_at o v h.it⟩
theorem Upd.next {g : Nat} {o o' : Obj} {w w1 w2 : World} (h : Upd g o w w1) (h2 : Upd g o' w1 w2) : Upd g o' w w2 :=
  ⟨h2.os.trans h.os, h2.tape.trans h.tape, h2.output.trans h.output, Nat.le_trans h.size h2.size, fun k hk hne => (h2.block k (Nat.lt_of_lt_of_le hk h.size) hne).trans (h.block k hk hne), h2.it⟩
theorem Upd.ext {g : Nat} {o : Obj} {w w1 w2 : World} (h : Upd g o w w1) (h2 : Below w1.heap.size w1 w2) : Upd g o w w2 :=
  ⟨h2.os.trans h.os, h2.tape.trans h.tape, h2.output.trans h.output, Nat.le_trans h.size h2.size, fun k hk hne => (h2.block k (Nat.lt_of_lt_of_le hk h.size)).trans (h.block k hk hne), (h2.block g (lt_of_block h.it)).trans h.it⟩
theorem St.updHead {B : Nat} {w0 w w' : World} {L : List Reg} {g : Nat} {o o' : Obj} (h : St B w0 w (Reg.box g o :: L)) (hu : Upd g o' w w') : St B w0 w' (Reg.box g o' :: L) := by
  have hr := h.each _ (List.mem_cons_self ..)
  obtain ⟨r1, r2, r3, -, hA⟩ := hr
  simp only [Reg.box] at r1 r2 r3
  have hap := List.pairwise_cons.1 h.apart
  refine ⟨h.below.trans ⟨hu.os, hu.tape, hu.output, hu.size, fun k hk => hu.block k (by omega) (by omega)⟩, Nat.le_trans h.size hu.size, fun r hr => ?_, List.Pairwise.cons (fun r hr => hap.1 r hr) hap.2⟩
  rcases List.mem_cons.1 hr with rfl | hr
  · exact ⟨r1, r2, Nat.le_trans r3 hu.size, Reg.box_ok _ _, hu.it⟩
  · obtain ⟨a1, a2, a3, a4, a5⟩ := h.each r (List.mem_cons_of_mem _ hr)
    refine ⟨a1, a2, Nat.le_trans a3 hu.size, a4, a4 _ _ (fun b hb1 hb2 => hu.block b (by omega) ?_) a5⟩
    have := hap.1 r hr
    simp only [Reg.apart, Reg.box] at this
    omega

theorem St.upd0 {B : Nat} {w0 w w' : World} {L : List Reg} {g : Nat} {o o' : Obj} (h : St B w0 w (Reg.box g o :: L)) (hu : Upd g o' w w') : St B w0 w' (Reg.box g o' :: L) := h.updHead hu
theorem St.reg0 {B : Nat} {w0 w : World} { r : Reg} {L : List Reg} (h : St B w0 w (r :: L)) : r.A w := h.said (by simp)
theorem St.upd1 {B : Nat} {w0 w w' : World} {r0 : Reg} {L : List Reg} {g : Nat} {o o' : Obj} (h : St B w0 w (r0 :: Reg.box g o :: L)) (hu : Upd g o' w w') : St B w0 w' (r0 :: Reg.box g o' :: L) :=
  ((h.perm (List.perm_middle (l₁ := [r0]))).updHead hu).perm (List.perm_middle (l₁ := [r0])).symm
theorem St.up1 {B : Nat} {w0 w : World} {r0 r : Reg} {L : List Reg} (h : St B w0 w (r0 :: r :: L)) : St B w0 w (r :: r0 :: L) := h.perm (List.perm_middle (l₁ := [r0]))
theorem St.down1 {B : Nat} {w0 w : World} {r0 r : Reg} {L : List Reg} (h : St B w0 w (r :: r0 :: L)) : St B w0 w (r0 :: r :: L) := h.perm (List.perm_middle (l₁ := [r0])).symm
theorem St.reg1 {B : Nat} {w0 w : World} {r0 r : Reg} {L : List Reg} (h : St B w0 w (r0 :: r :: L)) : r.A w := h.said (by simp)
theorem St.upd2 {B : Nat} {w0 w w' : World} {r0 r1 : Reg} {L : List Reg} {g : Nat} {o o' : Obj} (h : St B w0 w (r0 :: r1 :: Reg.box g o :: L)) (hu : Upd g o' w w') : St B w0 w' (r0 :: r1 :: Reg.box g o' :: L) :=
  ((h.perm (List.perm_middle (l₁ := [r0, r1]))).updHead hu).perm (List.perm_middle (l₁ := [r0, r1])).symm
theorem St.up2 {B : Nat} {w0 w : World} {r0 r1 r : Reg} {L : List Reg} (h : St B w0 w (r0 :: r1 :: r :: L)) : St B w0 w (r :: r0 :: r1 :: L) := h.perm (List.perm_middle (l₁ := [r0, r1]))
theorem St.down2 {B : Nat} {w0 w : World} {r0 r1 r : Reg} {L : List Reg} (h : St B w0 w (r :: r0 :: r1 :: L)) : St B w0 w (r0 :: r1 :: r :: L) := h.perm (List.perm_middle (l₁ := [r0, r1])).symm
theorem St.reg2 {B : Nat} {w0 w : World} {r0 r1 r : Reg} {L : List Reg} (h : St B w0 w (r0 :: r1 :: r :: L)) : r.A w := h.said (by simp)
theorem St.upd3 {B : Nat} {w0 w w' : World} {r0 r1 r2 : Reg} {L : List Reg} {g : Nat} {o o' : Obj} (h : St B w0 w (r0 :: r1 :: r2 :: Reg.box g o :: L)) (hu : Upd g o' w w') : St B w0 w' (r0 :: r1 :: r2 :: Reg.box g o' :: L) :=
  ((h.perm (List.perm_middle (l₁ := [r0, r1, r2]))).updHead hu).perm (List.perm_middle (l₁ := [r0, r1, r2])).symm
theorem St.up3 {B : Nat} {w0 w : World} {r0 r1 r2 r : Reg} {L : List Reg} (h : St B w0 w (r0 :: r1 :: r2 :: r :: L)) : St B w0 w (r :: r0 :: r1 :: r2 :: L) := h.perm (List.perm_middle (l₁ := [r0, r1, r2]))
theorem St.down3 {B : Nat} {w0 w : World} {r0 r1 r2 r : Reg} {L : List Reg} (h : St B w0 w (r :: r0 :: r1 :: r2 :: L)) : St B w0 w (r0 :: r1 :: r2 :: r :: L) := h.perm (List.perm_middle (l₁ := [r0, r1, r2])).symm
theorem St.reg3 {B : Nat} {w0 w : World} {r0 r1 r2 r : Reg} {L : List Reg} (h : St B w0 w (r0 :: r1 :: r2 :: r :: L)) : r.A w := h.said (by simp)
theorem St.upd4 {B : Nat} {w0 w w' : World} {r0 r1 r2 r3 : Reg} {L : List Reg} {g : Nat} {o o' : Obj} (h : St B w0 w (r0 :: r1 :: r2 :: r3 :: Reg.box g o :: L)) (hu : Upd g o' w w') : St B w0 w' (r0 :: r1 :: r2 :: r3 :: Reg.box g o' :: L) :=
  ((h.perm (List.perm_middle (l₁ := [r0, r1, r2, r3]))).updHead hu).perm (List.perm_middle (l₁ := [r0, r1, r2, r3])).symm
theorem St.up4 {B : Nat} {w0 w : World} {r0 r1 r2 r3 r : Reg} {L : List Reg} (h : St B w0 w (r0 :: r1 :: r2 :: r3 :: r :: L)) : St B w0 w (r :: r0 :: r1 :: r2 :: r3 :: L) := h.perm (List.perm_middle (l₁ := [r0, r1, r2, r3]))
theorem St.down4 {B : Nat} {w0 w : World} {r0 r1 r2 r3 r : Reg} {L : List Reg} (h : St B w0 w (r :: r0 :: r1 :: r2 :: r3 :: L)) : St B w0 w (r0 :: r1 :: r2 :: r3 :: r :: L) := h.perm (List.perm_middle (l₁ := [r0, r1, r2, r3])).symm
theorem St.reg4 {B : Nat} {w0 w : World} {r0 r1 r2 r3 r : Reg} {L : List Reg} (h : St B w0 w (r0 :: r1 :: r2 :: r3 :: r :: L)) : r.A w := h.said (by simp)
theorem St.upd5 {B : Nat} {w0 w w' : World} {r0 r1 r2 r3 r4 : Reg} {L : List Reg} {g : Nat} {o o' : Obj} (h : St B w0 w (r0 :: r1 :: r2 :: r3 :: r4 :: Reg.box g o :: L)) (hu : Upd g o' w w') : St B w0 w' (r0 :: r1 :: r2 :: r3 :: r4 :: Reg.box g o' :: L) :=
  ((h.perm (List.perm_middle (l₁ := [r0, r1, r2, r3, r4]))).updHead hu).perm (List.perm_middle (l₁ := [r0, r1, r2, r3, r4])).symm
theorem St.up5 {B : Nat} {w0 w : World} {r0 r1 r2 r3 r4 r : Reg} {L : List Reg} (h : St B w0 w (r0 :: r1 :: r2 :: r3 :: r4 :: r :: L)) : St B w0 w (r :: r0 :: r1 :: r2 :: r3 :: r4 :: L) := h.perm (List.perm_middle (l₁ := [r0, r1, r2, r3, r4]))
theorem St.down5 {B : Nat} {w0 w : World} {r0 r1 r2 r3 r4 r : Reg} {L : List Reg} (h : St B w0 w (r :: r0 :: r1 :: r2 :: r3 :: r4 :: L)) : St B w0 w (r0 :: r1 :: r2 :: r3 :: r4 :: r :: L) := h.perm (List.perm_middle (l₁ := [r0, r1, r2, r3, r4])).symm
theorem St.reg5 {B : Nat} {w0 w : World} {r0 r1 r2 r3 r4 r : Reg} {L : List Reg} (h : St B w0 w (r0 :: r1 :: r2 :: r3 :: r4 :: r :: L)) : r.A w := h.said (by simp)
theorem St.upd6 {B : Nat} {w0 w w' : World} {r0 r1 r2 r3 r4 r5 : Reg} {L : List Reg} {g : Nat} {o o' : Obj} (h : St B w0 w (r0 :: r1 :: r2 :: r3 :: r4 :: r5 :: Reg.box g o :: L)) (hu : Upd g o' w w') : St B w0 w' (r0 :: r1 :: r2 :: r3 :: r4 :: r5 :: Reg.box g o' :: L) :=
  ((h.perm (List.perm_middle (l₁ := [r0, r1, r2, r3, r4, r5]))).updHead hu).perm (List.perm_middle (l₁ := [r0, r1, r2, r3, r4, r5])).symm
theorem St.up6 {B : Nat} {w0 w : World} {r0 r1 r2 r3 r4 r5 r : Reg} {L : List Reg} (h : St B w0 w (r0 :: r1 :: r2 :: r3 :: r4 :: r5 :: r :: L)) : St B w0 w (r :: r0 :: r1 :: r2 :: r3 :: r4 :: r5 :: L) := h.perm (List.perm_middle (l₁ := [r0, r1, r2, r3, r4, r5]))
theorem St.down6 {B : Nat} {w0 w : World} {r0 r1 r2 r3 r4 r5 r : Reg} {L : List Reg} (h : St B w0 w (r :: r0 :: r1 :: r2 :: r3 :: r4 :: r5 :: L)) : St B w0 w (r0 :: r1 :: r2 :: r3 :: r4 :: r5 :: r :: L) := h.perm (List.perm_middle (l₁ := [r0, r1, r2, r3, r4, r5])).symm
theorem St.reg6 {B : Nat} {w0 w : World} {r0 r1 r2 r3 r4 r5 r : Reg} {L : List Reg} (h : St B w0 w (r0 :: r1 :: r2 :: r3 :: r4 :: r5 :: r :: L)) : r.A w := h.said (by simp)
theorem St.upd7 {B : Nat} {w0 w w' : World} {r0 r1 r2 r3 r4 r5 r6 : Reg} {L : List Reg} {g : Nat} {o o' : Obj} (h : St B w0 w (r0 :: r1 :: r2 :: r3 :: r4 :: r5 :: r6 :: Reg.box g o :: L)) (hu : Upd g o' w w') : St B w0 w' (r0 :: r1 :: r2 :: r3 :: r4 :: r5 :: r6 :: Reg.box g o' :: L) :=
  ((h.perm (List.perm_middle (l₁ := [r0, r1, r2, r3, r4, r5, r6]))).updHead hu).perm (List.perm_middle (l₁ := [r0, r1, r2, r3, r4, r5, r6])).symm
theorem St.up7 {B : Nat} {w0 w : World} {r0 r1 r2 r3 r4 r5 r6 r : Reg} {L : List Reg} (h : St B w0 w (r0 :: r1 :: r2 :: r3 :: r4 :: r5 :: r6 :: r :: L)) : St B w0 w (r :: r0 :: r1 :: r2 :: r3 :: r4 :: r5 :: r6 :: L) := h.perm (List.perm_middle (l₁ := [r0, r1, r2, r3, r4, r5, r6]))
theorem St.down7 {B : Nat} {w0 w : World} {r0 r1 r2 r3 r4 r5 r6 r : Reg} {L : List Reg} (h : St B w0 w (r :: r0 :: r1 :: r2 :: r3 :: r4 :: r5 :: r6 :: L)) : St B w0 w (r0 :: r1 :: r2 :: r3 :: r4 :: r5 :: r6 :: r :: L) := h.perm (List.perm_middle (l₁ := [r0, r1, r2, r3, r4, r5, r6])).symm
theorem St.reg7 {B : Nat} {w0 w : World} {r0 r1 r2 r3 r4 r5 r6 r : Reg} {L : List Reg} (h : St B w0 w (r0 :: r1 :: r2 :: r3 :: r4 :: r5 :: r6 :: r :: L)) : r.A w := h.said (by simp)
theorem St.upd8 {B : Nat} {w0 w w' : World} {r0 r1 r2 r3 r4 r5 r6 r7 : Reg} {L : List Reg} {g : Nat} {o o' : Obj} (h : St B w0 w (r0 :: r1 :: r2 :: r3 :: r4 :: r5 :: r6 :: r7 :: Reg.box g o :: L)) (hu : Upd g o' w w') : St B w0 w' (r0 :: r1 :: r2 :: r3 :: r4 :: r5 :: r6 :: r7 :: Reg.box g o' :: L) :=
  ((h.perm (List.perm_middle (l₁ := [r0, r1, r2, r3, r4, r5, r6, r7]))).updHead hu).perm (List.perm_middle (l₁ := [r0, r1, r2, r3, r4, r5, r6, r7])).symm
theorem St.up8 {B : Nat} {w0 w : World} {r0 r1 r2 r3 r4 r5 r6 r7 r : Reg} {L : List Reg} (h : St B w0 w (r0 :: r1 :: r2 :: r3 :: r4 :: r5 :: r6 :: r7 :: r :: L)) : St B w0 w (r :: r0 :: r1 :: r2 :: r3 :: r4 :: r5 :: r6 :: r7 :: L) := h.perm (List.perm_middle (l₁ := [r0, r1, r2, r3, r4, r5, r6, r7]))
theorem St.down8 {B : Nat} {w0 w : World} {r0 r1 r2 r3 r4 r5 r6 r7 r : Reg} {L : List Reg} (h : St B w0 w (r :: r0 :: r1 :: r2 :: r3 :: r4 :: r5 :: r6 :: r7 :: L)) : St B w0 w (r0 :: r1 :: r2 :: r3 :: r4 :: r5 :: r6 :: r7 :: r :: L) := h.perm (List.perm_middle (l₁ := [r0, r1, r2, r3, r4, r5, r6, r7])).symm
theorem St.reg8 {B : Nat} {w0 w : World} {r0 r1 r2 r3 r4 r5 r6 r7 r : Reg} {L : List Reg} (h : St B w0 w (r0 :: r1 :: r2 :: r3 :: r4 :: r5 :: r6 :: r7 :: r :: L)) : r.A w := h.said (by simp)
theorem St.upd9 {B : Nat} {w0 w w' : World} {r0 r1 r2 r3 r4 r5 r6 r7 r8 : Reg} {L : List Reg} {g : Nat} {o o' : Obj} (h : St B w0 w (r0 :: r1 :: r2 :: r3 :: r4 :: r5 :: r6 :: r7 :: r8 :: Reg.box g o :: L)) (hu : Upd g o' w w') : St B w0 w' (r0 :: r1 :: r2 :: r3 :: r4 :: r5 :: r6 :: r7 :: r8 :: Reg.box g o' :: L) :=
  ((h.perm (List.perm_middle (l₁ := [r0, r1, r2, r3, r4, r5, r6, r7, r8]))).updHead hu).perm (List.perm_middle (l₁ := [r0, r1, r2, r3, r4, r5, r6, r7, r8])).symm
theorem St.up9 {B : Nat} {w0 w : World} {r0 r1 r2 r3 r4 r5 r6 r7 r8 r : Reg} {L : List Reg} (h : St B w0 w (r0 :: r1 :: r2 :: r3 :: r4 :: r5 :: r6 :: r7 :: r8 :: r :: L)) : St B w0 w (r :: r0 :: r1 :: r2 :: r3 :: r4 :: r5 :: r6 :: r7 :: r8 :: L) := h.perm (List.perm_middle (l₁ := [r0, r1, r2, r3, r4, r5, r6, r7, r8]))
theorem St.down9 {B : Nat} {w0 w : World} {r0 r1 r2 r3 r4 r5 r6 r7 r8 r : Reg} {L : List Reg} (h : St B w0 w (r :: r0 :: r1 :: r2 :: r3 :: r4 :: r5 :: r6 :: r7 :: r8 :: L)) : St B w0 w (r0 :: r1 :: r2 :: r3 :: r4 :: r5 :: r6 :: r7 :: r8 :: r :: L) := h.perm (List.perm_middle (l₁ := [r0, r1, r2, r3, r4, r5, r6, r7, r8])).symm
theorem St.reg9 {B : Nat} {w0 w : World} {r0 r1 r2 r3 r4 r5 r6 r7 r8 r : Reg} {L : List Reg} (h : St B w0 w (r0 :: r1 :: r2 :: r3 :: r4 :: r5 :: r6 :: r7 :: r8 :: r :: L)) : r.A w := h.said (by simp)
theorem St.upd10 {B : Nat} {w0 w w' : World} {r0 r1 r2 r3 r4 r5 r6 r7 r8 r9 : Reg} {L : List Reg} {g : Nat} {o o' : Obj} (h : St B w0 w (r0 :: r1 :: r2 :: r3 :: r4 :: r5 :: r6 :: r7 :: r8 :: r9 :: Reg.box g o :: L)) (hu : Upd g o' w w') : St B w0 w' (r0 :: r1 :: r2 :: r3 :: r4 :: r5 :: r6 :: r7 :: r8 :: r9 :: Reg.box g o' :: L) :=
  ((h.perm (List.perm_middle (l₁ := [r0, r1, r2, r3, r4, r5, r6, r7, r8, r9]))).updHead hu).perm (List.perm_middle (l₁ := [r0, r1, r2, r3, r4, r5, r6, r7, r8, r9])).symm
theorem St.up10 {B : Nat} {w0 w : World} {r0 r1 r2 r3 r4 r5 r6 r7 r8 r9 r : Reg} {L : List Reg} (h : St B w0 w (r0 :: r1 :: r2 :: r3 :: r4 :: r5 :: r6 :: r7 :: r8 :: r9 :: r :: L)) : St B w0 w (r :: r0 :: r1 :: r2 :: r3 :: r4 :: r5 :: r6 :: r7 :: r8 :: r9 :: L) := h.perm (List.perm_middle (l₁ := [r0, r1, r2, r3, r4, r5, r6, r7, r8, r9]))
theorem St.down10 {B : Nat} {w0 w : World} {r0 r1 r2 r3 r4 r5 r6 r7 r8 r9 r : Reg} {L : List Reg} (h : St B w0 w (r :: r0 :: r1 :: r2 :: r3 :: r4 :: r5 :: r6 :: r7 :: r8 :: r9 :: L)) : St B w0 w (r0 :: r1 :: r2 :: r3 :: r4 :: r5 :: r6 :: r7 :: r8 :: r9 :: r :: L) := h.perm (List.perm_middle (l₁ := [r0, r1, r2, r3, r4, r5, r6, r7, r8, r9])).symm
theorem St.reg10 {B : Nat} {w0 w : World} {r0 r1 r2 r3 r4 r5 r6 r7 r8 r9 r : Reg} {L : List Reg} (h : St B w0 w (r0 :: r1 :: r2 :: r3 :: r4 :: r5 :: r6 :: r7 :: r8 :: r9 :: r :: L)) : r.A w := h.said (by simp)
theorem St.upd11 {B : Nat} {w0 w w' : World} {r0 r1 r2 r3 r4 r5 r6 r7 r8 r9 r10 : Reg} {L : List Reg} {g : Nat} {o o' : Obj} (h : St B w0 w (r0 :: r1 :: r2 :: r3 :: r4 :: r5 :: r6 :: r7 :: r8 :: r9 :: r10 :: Reg.box g o :: L)) (hu : Upd g o' w w') : St B w0 w' (r0 :: r1 :: r2 :: r3 :: r4 :: r5 :: r6 :: r7 :: r8 :: r9 :: r10 :: Reg.box g o' :: L) :=
  ((h.perm (List.perm_middle (l₁ := [r0, r1, r2, r3, r4, r5, r6, r7, r8, r9, r10]))).updHead hu).perm (List.perm_middle (l₁ := [r0, r1, r2, r3, r4, r5, r6, r7, r8, r9, r10])).symm
theorem St.up11 {B : Nat} {w0 w : World} {r0 r1 r2 r3 r4 r5 r6 r7 r8 r9 r10 r : Reg} {L : List Reg} (h : St B w0 w (r0 :: r1 :: r2 :: r3 :: r4 :: r5 :: r6 :: r7 :: r8 :: r9 :: r10 :: r :: L)) : St B w0 w (r :: r0 :: r1 :: r2 :: r3 :: r4 :: r5 :: r6 :: r7 :: r8 :: r9 :: r10 :: L) := h.perm (List.perm_middle (l₁ := [r0, r1, r2, r3, r4, r5, r6, r7, r8, r9, r10]))
theorem St.down11 {B : Nat} {w0 w : World} {r0 r1 r2 r3 r4 r5 r6 r7 r8 r9 r10 r : Reg} {L : List Reg} (h : St B w0 w (r :: r0 :: r1 :: r2 :: r3 :: r4 :: r5 :: r6 :: r7 :: r8 :: r9 :: r10 :: L)) : St B w0 w (r0 :: r1 :: r2 :: r3 :: r4 :: r5 :: r6 :: r7 :: r8 :: r9 :: r10 :: r :: L) := h.perm (List.perm_middle (l₁ := [r0, r1, r2, r3, r4, r5, r6, r7, r8, r9, r10])).symm
theorem St.reg11 {B : Nat} {w0 w : World} {r0 r1 r2 r3 r4 r5 r6 r7 r8 r9 r10 r : Reg} {L : List Reg} (h : St B w0 w (r0 :: r1 :: r2 :: r3 :: r4 :: r5 :: r6 :: r7 :: r8 :: r9 :: r10 :: r :: L)) : r.A w := h.said (by simp)
end Go.Proofs.Ytkhlhnpoieolhaa

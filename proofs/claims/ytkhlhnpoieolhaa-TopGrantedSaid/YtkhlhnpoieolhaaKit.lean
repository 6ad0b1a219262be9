/-
  Words of my own for the walks of this seat: what a call's own memory holds (a list of regions, each of some blocks, with what is said of them), and that what stood before the call stands as it was.
-/
import Derived.Test.YtkhlhnpoieolhaaRows
import Derived.WalkKit
import Derived.WalkSpells
import Derived.WalkLawsBesides
import Derived.BigQuiet
import Derived.Deep.QuietTactic
import Derived.Deep.RegionHeld3
import Derived.Deep.DrawnRows
import Derived.Lib.Hide
import Derived.Maps.AppendAt
namespace Go.Proofs.Ytkhlhnpoieolhaa
open Go.RowKit

theorem blk_cell {w : World} {b o : Nat} {cs : Array Value} {t : TypeId} {fr : Nat × Nat} (h : w.heap[b]? = some (.cells cs t fr)) : w.cell? ⟨b, o, none⟩ = cs[o]? := by simp [World.cell?, h]
theorem blk_free {w : World} {b o : Nat} {cs : Array Value} {t : TypeId} (h : w.heap[b]? = some (.cells cs t (0, 0))) : w.frozen? ⟨b, o, none⟩ = false := by simp [World.frozen?, h]
theorem heap_set_at {w : World} {b : Nat} (o : Nat) (v : Value) {cs : Array Value} {t : TypeId} {fr : Nat × Nat} (h : w.heap[b]? = some (.cells cs t fr)) : (w.setCell ⟨b, o, none⟩ v).heap[b]? = some (.cells (cs.setIfInBounds o v) t fr) := by
  simp [World.setCell, Array.getElem?_modify, h]

theorem size_drewN (w : World) (n : Nat) : (w.drewN n).heap.size = w.heap.size := rfl
/-- Blocks lo to hi - 1, and what is said of them. -/
structure Reg where
  lo : Nat
  hi : Nat
  A : World → Prop
/-- What is said hangs on those blocks alone. -/
def Reg.ok (r : Reg) : Prop := ∀ w w' : World, (∀ b, r.lo ≤ b → b < r.hi → w'.heap[b]? = w.heap[b]?) → r.A w → r.A w'
def Reg.box (b : Nat) (o : Obj) : Reg := ⟨b, b + 1, fun w => w.heap[b]? = some o⟩
theorem Reg.box_ok (b : Nat) (o : Obj) : (Reg.box b o).ok := fun _ _ h hA => (h b (Nat.le_refl _) (Nat.lt_succ_self _)).trans hA
def Reg.apart (r s : Reg) : Prop := r.hi ≤ s.lo ∨ s.hi ≤ r.lo

/-- The world w, come from w0: below block B it is as it was; what the call has made itself is as L says. -/
structure St (B : Nat) (w0 w : World) (L : List Reg) : Prop where
  below : Below B w0 w
  size : B ≤ w.heap.size
  each : ∀ r ∈ L, B ≤ r.lo ∧ r.lo ≤ r.hi ∧ r.hi ≤ w.heap.size ∧ r.ok ∧ r.A w
  apart : L.Pairwise Reg.apart

theorem St.refl (w : World) : St w.heap.size w w [] := ⟨Below.refl _ _, Nat.le_refl _, fun _ h => (by cases h), List.Pairwise.nil⟩
theorem St.drew {B : Nat} {w0 w : World} {L : List Reg} (h : St B w0 w L) : St B w0 w.drew L :=
  ⟨h.below.drew, h.size, fun r hr => let ⟨a, b, c, d, e⟩ := h.each r hr; ⟨a, b, c, d, d w _ (fun _ _ _ => rfl) e⟩, h.apart⟩
theorem St.drewN {B : Nat} {w0 w : World} {L : List Reg} (h : St B w0 w L) (n : Nat) : St B w0 (w.drewN n) L :=
  ⟨⟨h.below.os, h.below.tape, h.below.output, h.below.size, h.below.block⟩, h.size, fun r hr => let ⟨a, b, c, d, e⟩ := h.each r hr; ⟨a, b, c, d, d w _ (fun _ _ _ => rfl) e⟩, h.apart⟩
/-- What keeps all blocks that are there. -/
theorem St.ext {B : Nat} {w0 w w' : World} {L : List Reg} (h : St B w0 w L) (hb : Below w.heap.size w w') : St B w0 w' L :=
  ⟨h.below.trans (hb.mono h.size), Nat.le_trans h.size hb.size, fun r hr => let ⟨a, b, c, d, e⟩ := h.each r hr; ⟨a, b, Nat.le_trans c hb.size, d, d _ _ (fun k _ hk => hb.block k (Nat.lt_of_lt_of_le hk c)) e⟩, h.apart⟩
/-- The same, and what lies in the new blocks. -/
theorem St.extend {B : Nat} {w0 w w' : World} {L : List Reg} (h : St B w0 w L) (hb : Below w.heap.size w w') (A : World → Prop) (hok : (Reg.mk w.heap.size w'.heap.size A).ok) (hA : A w') : St B w0 w' (⟨w.heap.size, w'.heap.size, A⟩ :: L) := by
  have h' := h.ext hb
  refine ⟨h'.below, h'.size, fun r hr => ?_, List.Pairwise.cons (fun r hr => ?_) h.apart⟩
  · rcases List.mem_cons.1 hr with rfl | hr
    · exact ⟨h.size, hb.size, Nat.le_refl _, hok, hA⟩
    · exact h'.each r hr
  · exact .inr (h.each r hr).2.2.1
theorem St.alloc {B : Nat} {w0 w : World} {L : List Reg} (h : St B w0 w L) (o : Obj) : St B w0 (w.alloc o) (Reg.box w.heap.size o :: L) := by
  have h' := h.ext ((Below.refl w.heap.size w).alloc (Nat.le_refl _) o)
  refine ⟨h'.below, h'.size, fun r hr => ?_, List.Pairwise.cons (fun r hr => ?_) h.apart⟩
  · rcases List.mem_cons.1 hr with rfl | hr
    · exact ⟨h.size, Nat.le_succ _, by simp [Reg.box], Reg.box_ok _ _, heap_alloc_new w o⟩
    · exact h'.each r hr
  · exact .inr (h.each r hr).2.2.1
theorem St.get {B : Nat} {w0 w : World} {L : List Reg} (h : St B w0 w L) {b : Nat} {o : Obj} (hm : Reg.box b o ∈ L) : w.heap[b]? = some o := (h.each _ hm).2.2.2.2
theorem St.said {B : Nat} {w0 w : World} {L : List Reg} (h : St B w0 w L) {r : Reg} (hm : r ∈ L) : r.A w := (h.each _ hm).2.2.2.2
theorem St.setHead {B : Nat} {w0 w : World} {L : List Reg} {b o : Nat} {cs : Array Value} {t : TypeId} {fr : Nat × Nat} (h : St B w0 w (Reg.box b (.cells cs t fr) :: L)) (v : Value) :
    St B w0 (w.setCell ⟨b, o, none⟩ v) (Reg.box b (.cells (cs.setIfInBounds o v) t fr) :: L) := by
  have hb := h.each _ (List.mem_cons_self ..)
  have hap := List.pairwise_cons.1 h.apart
  refine ⟨h.below.setCell hb.1 v, by simpa using h.size, fun r hr => ?_, List.Pairwise.cons (fun r hr => hap.1 r hr) hap.2⟩
  rcases List.mem_cons.1 hr with rfl | hr
  · exact ⟨hb.1, hb.2.1, by simpa [Reg.box] using hb.2.2.1, Reg.box_ok _ _, heap_set_at o v (h.get (List.mem_cons_self ..))⟩
  · obtain ⟨a1, a2, a3, a4, a5⟩ := h.each r (List.mem_cons_of_mem _ hr)
    refine ⟨a1, a2, by simpa using a3, a4, a4 _ _ (fun k hk1 hk2 => Below.heap_setCell _ _ _ _ ?_) a5⟩
    have := hap.1 r hr
    simp only [Reg.apart, Reg.box] at this
    show k ≠ b
    omega
theorem St.perm {B : Nat} {w0 w : World} {L L' : List Reg} (h : St B w0 w L) (hp : L.Perm L') : St B w0 w L' :=
  ⟨h.below, h.size, fun r hr => h.each r (hp.mem_iff.2 hr), (hp.pairwise_iff (fun hxy => hxy.symm)).1 h.apart⟩
theorem St.drop {B : Nat} {w0 w : World} {r : Reg} {L : List Reg} (h : St B w0 w (r :: L)) : St B w0 w L :=
  ⟨h.below, h.size, fun s hs => h.each s (List.mem_cons_of_mem _ hs), (List.pairwise_cons.1 h.apart).2⟩
theorem St.neOf {B : Nat} {w0 w : World} {l m L : List Reg} {b b' : Nat} {o o' : Obj} (h : St B w0 w (l ++ Reg.box b o :: (m ++ Reg.box b' o' :: L))) : b ≠ b' := by
  have h1 := (List.pairwise_append.1 h.apart).2.1
  have h2 := (List.pairwise_cons.1 h1).1 (Reg.box b' o') (by simp)
  simp only [Reg.apart, Reg.box] at h2
  omega
theorem cellSet {w : World} {b o b2 o2 : Nat} {v u : Value} (h : w.cell? ⟨b, o, none⟩ = some v) (hne : b ≠ b2) : (w.setCell ⟨b2, o2, none⟩ u).cell? ⟨b, o, none⟩ = some v :=
  (World.cell?_setCell_other w _ _ u (fun e => hne (by injection e with e1; exact e1.symm))).trans h
theorem St.sub {B : Nat} {w0 w : World} {L L' : List Reg} (h : St B w0 w L) (hs : L'.Sublist L) : St B w0 w L' :=
  ⟨h.below, h.size, fun r hr => h.each r (hs.subset hr), h.apart.sublist hs⟩

theorem St.set0 {B : Nat} {w0 w : World} {L : List Reg} {b o : Nat} {cs : Array Value} {t : TypeId} {fr : Nat × Nat} (h : St B w0 w (Reg.box b (.cells cs t fr) :: L)) (v : Value) :
    St B w0 (w.setCell ⟨b, o, none⟩ v) (Reg.box b (.cells (cs.setIfInBounds o v) t fr) :: L) := h.setHead v
theorem St.set1 {B : Nat} {w0 w : World} {r0 : Reg} {L : List Reg} {b o : Nat} {cs : Array Value} {t : TypeId} {fr : Nat × Nat} (h : St B w0 w (r0 :: Reg.box b (.cells cs t fr) :: L)) (v : Value) :
    St B w0 (w.setCell ⟨b, o, none⟩ v) (r0 :: Reg.box b (.cells (cs.setIfInBounds o v) t fr) :: L) :=
  ((h.perm (List.perm_middle (l₁ := [r0]))).setHead v).perm (List.perm_middle (l₁ := [r0])).symm
theorem St.set2 {B : Nat} {w0 w : World} {r0 r1 : Reg} {L : List Reg} {b o : Nat} {cs : Array Value} {t : TypeId} {fr : Nat × Nat} (h : St B w0 w (r0 :: r1 :: Reg.box b (.cells cs t fr) :: L)) (v : Value) :
    St B w0 (w.setCell ⟨b, o, none⟩ v) (r0 :: r1 :: Reg.box b (.cells (cs.setIfInBounds o v) t fr) :: L) :=
  ((h.perm (List.perm_middle (l₁ := [r0, r1]))).setHead v).perm (List.perm_middle (l₁ := [r0, r1])).symm
theorem St.set3 {B : Nat} {w0 w : World} {r0 r1 r2 : Reg} {L : List Reg} {b o : Nat} {cs : Array Value} {t : TypeId} {fr : Nat × Nat} (h : St B w0 w (r0 :: r1 :: r2 :: Reg.box b (.cells cs t fr) :: L)) (v : Value) :
    St B w0 (w.setCell ⟨b, o, none⟩ v) (r0 :: r1 :: r2 :: Reg.box b (.cells (cs.setIfInBounds o v) t fr) :: L) :=
  ((h.perm (List.perm_middle (l₁ := [r0, r1, r2]))).setHead v).perm (List.perm_middle (l₁ := [r0, r1, r2])).symm
theorem St.set4 {B : Nat} {w0 w : World} {r0 r1 r2 r3 : Reg} {L : List Reg} {b o : Nat} {cs : Array Value} {t : TypeId} {fr : Nat × Nat} (h : St B w0 w (r0 :: r1 :: r2 :: r3 :: Reg.box b (.cells cs t fr) :: L)) (v : Value) :
    St B w0 (w.setCell ⟨b, o, none⟩ v) (r0 :: r1 :: r2 :: r3 :: Reg.box b (.cells (cs.setIfInBounds o v) t fr) :: L) :=
  ((h.perm (List.perm_middle (l₁ := [r0, r1, r2, r3]))).setHead v).perm (List.perm_middle (l₁ := [r0, r1, r2, r3])).symm
theorem St.set5 {B : Nat} {w0 w : World} {r0 r1 r2 r3 r4 : Reg} {L : List Reg} {b o : Nat} {cs : Array Value} {t : TypeId} {fr : Nat × Nat} (h : St B w0 w (r0 :: r1 :: r2 :: r3 :: r4 :: Reg.box b (.cells cs t fr) :: L)) (v : Value) :
    St B w0 (w.setCell ⟨b, o, none⟩ v) (r0 :: r1 :: r2 :: r3 :: r4 :: Reg.box b (.cells (cs.setIfInBounds o v) t fr) :: L) :=
  ((h.perm (List.perm_middle (l₁ := [r0, r1, r2, r3, r4]))).setHead v).perm (List.perm_middle (l₁ := [r0, r1, r2, r3, r4])).symm
theorem St.set6 {B : Nat} {w0 w : World} {r0 r1 r2 r3 r4 r5 : Reg} {L : List Reg} {b o : Nat} {cs : Array Value} {t : TypeId} {fr : Nat × Nat} (h : St B w0 w (r0 :: r1 :: r2 :: r3 :: r4 :: r5 :: Reg.box b (.cells cs t fr) :: L)) (v : Value) :
    St B w0 (w.setCell ⟨b, o, none⟩ v) (r0 :: r1 :: r2 :: r3 :: r4 :: r5 :: Reg.box b (.cells (cs.setIfInBounds o v) t fr) :: L) :=
  ((h.perm (List.perm_middle (l₁ := [r0, r1, r2, r3, r4, r5]))).setHead v).perm (List.perm_middle (l₁ := [r0, r1, r2, r3, r4, r5])).symm
theorem St.set7 {B : Nat} {w0 w : World} {r0 r1 r2 r3 r4 r5 r6 : Reg} {L : List Reg} {b o : Nat} {cs : Array Value} {t : TypeId} {fr : Nat × Nat} (h : St B w0 w (r0 :: r1 :: r2 :: r3 :: r4 :: r5 :: r6 :: Reg.box b (.cells cs t fr) :: L)) (v : Value) :
    St B w0 (w.setCell ⟨b, o, none⟩ v) (r0 :: r1 :: r2 :: r3 :: r4 :: r5 :: r6 :: Reg.box b (.cells (cs.setIfInBounds o v) t fr) :: L) :=
  ((h.perm (List.perm_middle (l₁ := [r0, r1, r2, r3, r4, r5, r6]))).setHead v).perm (List.perm_middle (l₁ := [r0, r1, r2, r3, r4, r5, r6])).symm
theorem St.set8 {B : Nat} {w0 w : World} {r0 r1 r2 r3 r4 r5 r6 r7 : Reg} {L : List Reg} {b o : Nat} {cs : Array Value} {t : TypeId} {fr : Nat × Nat} (h : St B w0 w (r0 :: r1 :: r2 :: r3 :: r4 :: r5 :: r6 :: r7 :: Reg.box b (.cells cs t fr) :: L)) (v : Value) :
    St B w0 (w.setCell ⟨b, o, none⟩ v) (r0 :: r1 :: r2 :: r3 :: r4 :: r5 :: r6 :: r7 :: Reg.box b (.cells (cs.setIfInBounds o v) t fr) :: L) :=
  ((h.perm (List.perm_middle (l₁ := [r0, r1, r2, r3, r4, r5, r6, r7]))).setHead v).perm (List.perm_middle (l₁ := [r0, r1, r2, r3, r4, r5, r6, r7])).symm
theorem St.set9 {B : Nat} {w0 w : World} {r0 r1 r2 r3 r4 r5 r6 r7 r8 : Reg} {L : List Reg} {b o : Nat} {cs : Array Value} {t : TypeId} {fr : Nat × Nat} (h : St B w0 w (r0 :: r1 :: r2 :: r3 :: r4 :: r5 :: r6 :: r7 :: r8 :: Reg.box b (.cells cs t fr) :: L)) (v : Value) :
    St B w0 (w.setCell ⟨b, o, none⟩ v) (r0 :: r1 :: r2 :: r3 :: r4 :: r5 :: r6 :: r7 :: r8 :: Reg.box b (.cells (cs.setIfInBounds o v) t fr) :: L) :=
  ((h.perm (List.perm_middle (l₁ := [r0, r1, r2, r3, r4, r5, r6, r7, r8]))).setHead v).perm (List.perm_middle (l₁ := [r0, r1, r2, r3, r4, r5, r6, r7, r8])).symm
theorem St.set10 {B : Nat} {w0 w : World} {r0 r1 r2 r3 r4 r5 r6 r7 r8 r9 : Reg} {L : List Reg} {b o : Nat} {cs : Array Value} {t : TypeId} {fr : Nat × Nat} (h : St B w0 w (r0 :: r1 :: r2 :: r3 :: r4 :: r5 :: r6 :: r7 :: r8 :: r9 :: Reg.box b (.cells cs t fr) :: L)) (v : Value) :
    St B w0 (w.setCell ⟨b, o, none⟩ v) (r0 :: r1 :: r2 :: r3 :: r4 :: r5 :: r6 :: r7 :: r8 :: r9 :: Reg.box b (.cells (cs.setIfInBounds o v) t fr) :: L) :=
  ((h.perm (List.perm_middle (l₁ := [r0, r1, r2, r3, r4, r5, r6, r7, r8, r9]))).setHead v).perm (List.perm_middle (l₁ := [r0, r1, r2, r3, r4, r5, r6, r7, r8, r9])).symm
theorem St.set11 {B : Nat} {w0 w : World} {r0 r1 r2 r3 r4 r5 r6 r7 r8 r9 r10 : Reg} {L : List Reg} {b o : Nat} {cs : Array Value} {t : TypeId} {fr : Nat × Nat} (h : St B w0 w (r0 :: r1 :: r2 :: r3 :: r4 :: r5 :: r6 :: r7 :: r8 :: r9 :: r10 :: Reg.box b (.cells cs t fr) :: L)) (v : Value) :
    St B w0 (w.setCell ⟨b, o, none⟩ v) (r0 :: r1 :: r2 :: r3 :: r4 :: r5 :: r6 :: r7 :: r8 :: r9 :: r10 :: Reg.box b (.cells (cs.setIfInBounds o v) t fr) :: L) :=
  ((h.perm (List.perm_middle (l₁ := [r0, r1, r2, r3, r4, r5, r6, r7, r8, r9, r10]))).setHead v).perm (List.perm_middle (l₁ := [r0, r1, r2, r3, r4, r5, r6, r7, r8, r9, r10])).symm
theorem St.get0 {B : Nat} {w0 w : World} {L : List Reg} {b : Nat} {o : Obj} (h : St B w0 w (Reg.box b o :: L)) : w.heap[b]? = some o := h.get (by simp)
theorem St.get1 {B : Nat} {w0 w : World} {r0 : Reg} {L : List Reg} {b : Nat} {o : Obj} (h : St B w0 w (r0 :: Reg.box b o :: L)) : w.heap[b]? = some o := h.get (by simp)
theorem St.get2 {B : Nat} {w0 w : World} {r0 r1 : Reg} {L : List Reg} {b : Nat} {o : Obj} (h : St B w0 w (r0 :: r1 :: Reg.box b o :: L)) : w.heap[b]? = some o := h.get (by simp)
theorem St.get3 {B : Nat} {w0 w : World} {r0 r1 r2 : Reg} {L : List Reg} {b : Nat} {o : Obj} (h : St B w0 w (r0 :: r1 :: r2 :: Reg.box b o :: L)) : w.heap[b]? = some o := h.get (by simp)
theorem St.get4 {B : Nat} {w0 w : World} {r0 r1 r2 r3 : Reg} {L : List Reg} {b : Nat} {o : Obj} (h : St B w0 w (r0 :: r1 :: r2 :: r3 :: Reg.box b o :: L)) : w.heap[b]? = some o := h.get (by simp)
theorem St.get5 {B : Nat} {w0 w : World} {r0 r1 r2 r3 r4 : Reg} {L : List Reg} {b : Nat} {o : Obj} (h : St B w0 w (r0 :: r1 :: r2 :: r3 :: r4 :: Reg.box b o :: L)) : w.heap[b]? = some o := h.get (by simp)
theorem St.get6 {B : Nat} {w0 w : World} {r0 r1 r2 r3 r4 r5 : Reg} {L : List Reg} {b : Nat} {o : Obj} (h : St B w0 w (r0 :: r1 :: r2 :: r3 :: r4 :: r5 :: Reg.box b o :: L)) : w.heap[b]? = some o := h.get (by simp)
theorem St.get7 {B : Nat} {w0 w : World} {r0 r1 r2 r3 r4 r5 r6 : Reg} {L : List Reg} {b : Nat} {o : Obj} (h : St B w0 w (r0 :: r1 :: r2 :: r3 :: r4 :: r5 :: r6 :: Reg.box b o :: L)) : w.heap[b]? = some o := h.get (by simp)
theorem St.get8 {B : Nat} {w0 w : World} {r0 r1 r2 r3 r4 r5 r6 r7 : Reg} {L : List Reg} {b : Nat} {o : Obj} (h : St B w0 w (r0 :: r1 :: r2 :: r3 :: r4 :: r5 :: r6 :: r7 :: Reg.box b o :: L)) : w.heap[b]? = some o := h.get (by simp)
theorem St.get9 {B : Nat} {w0 w : World} {r0 r1 r2 r3 r4 r5 r6 r7 r8 : Reg} {L : List Reg} {b : Nat} {o : Obj} (h : St B w0 w (r0 :: r1 :: r2 :: r3 :: r4 :: r5 :: r6 :: r7 :: r8 :: Reg.box b o :: L)) : w.heap[b]? = some o := h.get (by simp)
theorem St.get10 {B : Nat} {w0 w : World} {r0 r1 r2 r3 r4 r5 r6 r7 r8 r9 : Reg} {L : List Reg} {b : Nat} {o : Obj} (h : St B w0 w (r0 :: r1 :: r2 :: r3 :: r4 :: r5 :: r6 :: r7 :: r8 :: r9 :: Reg.box b o :: L)) : w.heap[b]? = some o := h.get (by simp)
theorem St.get11 {B : Nat} {w0 w : World} {r0 r1 r2 r3 r4 r5 r6 r7 r8 r9 r10 : Reg} {L : List Reg} {b : Nat} {o : Obj} (h : St B w0 w (r0 :: r1 :: r2 :: r3 :: r4 :: r5 :: r6 :: r7 :: r8 :: r9 :: r10 :: Reg.box b o :: L)) : w.heap[b]? = some o := h.get (by simp)
theorem St.ne01 {B : Nat} {w0 w : World} {L : List Reg} {b b' : Nat} {o o' : Obj} (h : St B w0 w (Reg.box b o :: Reg.box b' o' :: L)) : b ≠ b' := St.neOf (l := []) (m := []) h
theorem St.ne02 {B : Nat} {w0 w : World} {r1 : Reg} {L : List Reg} {b b' : Nat} {o o' : Obj} (h : St B w0 w (Reg.box b o :: r1 :: Reg.box b' o' :: L)) : b ≠ b' := St.neOf (l := []) (m := [r1]) h
theorem St.ne03 {B : Nat} {w0 w : World} {r1 r2 : Reg} {L : List Reg} {b b' : Nat} {o o' : Obj} (h : St B w0 w (Reg.box b o :: r1 :: r2 :: Reg.box b' o' :: L)) : b ≠ b' := St.neOf (l := []) (m := [r1, r2]) h
theorem St.ne04 {B : Nat} {w0 w : World} {r1 r2 r3 : Reg} {L : List Reg} {b b' : Nat} {o o' : Obj} (h : St B w0 w (Reg.box b o :: r1 :: r2 :: r3 :: Reg.box b' o' :: L)) : b ≠ b' := St.neOf (l := []) (m := [r1, r2, r3]) h
theorem St.ne05 {B : Nat} {w0 w : World} {r1 r2 r3 r4 : Reg} {L : List Reg} {b b' : Nat} {o o' : Obj} (h : St B w0 w (Reg.box b o :: r1 :: r2 :: r3 :: r4 :: Reg.box b' o' :: L)) : b ≠ b' := St.neOf (l := []) (m := [r1, r2, r3, r4]) h
theorem St.ne06 {B : Nat} {w0 w : World} {r1 r2 r3 r4 r5 : Reg} {L : List Reg} {b b' : Nat} {o o' : Obj} (h : St B w0 w (Reg.box b o :: r1 :: r2 :: r3 :: r4 :: r5 :: Reg.box b' o' :: L)) : b ≠ b' := St.neOf (l := []) (m := [r1, r2, r3, r4, r5]) h
theorem St.ne07 {B : Nat} {w0 w : World} {r1 r2 r3 r4 r5 r6 : Reg} {L : List Reg} {b b' : Nat} {o o' : Obj} (h : St B w0 w (Reg.box b o :: r1 :: r2 :: r3 :: r4 :: r5 :: r6 :: Reg.box b' o' :: L)) : b ≠ b' := St.neOf (l := []) (m := [r1, r2, r3, r4, r5, r6]) h
theorem St.ne08 {B : Nat} {w0 w : World} {r1 r2 r3 r4 r5 r6 r7 : Reg} {L : List Reg} {b b' : Nat} {o o' : Obj} (h : St B w0 w (Reg.box b o :: r1 :: r2 :: r3 :: r4 :: r5 :: r6 :: r7 :: Reg.box b' o' :: L)) : b ≠ b' := St.neOf (l := []) (m := [r1, r2, r3, r4, r5, r6, r7]) h
theorem St.ne09 {B : Nat} {w0 w : World} {r1 r2 r3 r4 r5 r6 r7 r8 : Reg} {L : List Reg} {b b' : Nat} {o o' : Obj} (h : St B w0 w (Reg.box b o :: r1 :: r2 :: r3 :: r4 :: r5 :: r6 :: r7 :: r8 :: Reg.box b' o' :: L)) : b ≠ b' := St.neOf (l := []) (m := [r1, r2, r3, r4, r5, r6, r7, r8]) h
theorem St.ne0_10 {B : Nat} {w0 w : World} {r1 r2 r3 r4 r5 r6 r7 r8 r9 : Reg} {L : List Reg} {b b' : Nat} {o o' : Obj} (h : St B w0 w (Reg.box b o :: r1 :: r2 :: r3 :: r4 :: r5 :: r6 :: r7 :: r8 :: r9 :: Reg.box b' o' :: L)) : b ≠ b' := St.neOf (l := []) (m := [r1, r2, r3, r4, r5, r6, r7, r8, r9]) h
theorem St.ne12 {B : Nat} {w0 w : World} {r0 : Reg} {L : List Reg} {b b' : Nat} {o o' : Obj} (h : St B w0 w (r0 :: Reg.box b o :: Reg.box b' o' :: L)) : b ≠ b' := St.neOf (l := [r0]) (m := []) h
theorem St.ne13 {B : Nat} {w0 w : World} {r0 r2 : Reg} {L : List Reg} {b b' : Nat} {o o' : Obj} (h : St B w0 w (r0 :: Reg.box b o :: r2 :: Reg.box b' o' :: L)) : b ≠ b' := St.neOf (l := [r0]) (m := [r2]) h
theorem St.ne14 {B : Nat} {w0 w : World} {r0 r2 r3 : Reg} {L : List Reg} {b b' : Nat} {o o' : Obj} (h : St B w0 w (r0 :: Reg.box b o :: r2 :: r3 :: Reg.box b' o' :: L)) : b ≠ b' := St.neOf (l := [r0]) (m := [r2, r3]) h
theorem St.ne15 {B : Nat} {w0 w : World} {r0 r2 r3 r4 : Reg} {L : List Reg} {b b' : Nat} {o o' : Obj} (h : St B w0 w (r0 :: Reg.box b o :: r2 :: r3 :: r4 :: Reg.box b' o' :: L)) : b ≠ b' := St.neOf (l := [r0]) (m := [r2, r3, r4]) h
theorem St.ne16 {B : Nat} {w0 w : World} {r0 r2 r3 r4 r5 : Reg} {L : List Reg} {b b' : Nat} {o o' : Obj} (h : St B w0 w (r0 :: Reg.box b o :: r2 :: r3 :: r4 :: r5 :: Reg.box b' o' :: L)) : b ≠ b' := St.neOf (l := [r0]) (m := [r2, r3, r4, r5]) h
theorem St.ne17 {B : Nat} {w0 w : World} {r0 r2 r3 r4 r5 r6 : Reg} {L : List Reg} {b b' : Nat} {o o' : Obj} (h : St B w0 w (r0 :: Reg.box b o :: r2 :: r3 :: r4 :: r5 :: r6 :: Reg.box b' o' :: L)) : b ≠ b' := St.neOf (l := [r0]) (m := [r2, r3, r4, r5, r6]) h
theorem St.ne18 {B : Nat} {w0 w : World} {r0 r2 r3 r4 r5 r6 r7 : Reg} {L : List Reg} {b b' : Nat} {o o' : Obj} (h : St B w0 w (r0 :: Reg.box b o :: r2 :: r3 :: r4 :: r5 :: r6 :: r7 :: Reg.box b' o' :: L)) : b ≠ b' := St.neOf (l := [r0]) (m := [r2, r3, r4, r5, r6, r7]) h
theorem St.ne19 {B : Nat} {w0 w : World} {r0 r2 r3 r4 r5 r6 r7 r8 : Reg} {L : List Reg} {b b' : Nat} {o o' : Obj} (h : St B w0 w (r0 :: Reg.box b o :: r2 :: r3 :: r4 :: r5 :: r6 :: r7 :: r8 :: Reg.box b' o' :: L)) : b ≠ b' := St.neOf (l := [r0]) (m := [r2, r3, r4, r5, r6, r7, r8]) h
theorem St.ne1_10 {B : Nat} {w0 w : World} {r0 r2 r3 r4 r5 r6 r7 r8 r9 : Reg} {L : List Reg} {b b' : Nat} {o o' : Obj} (h : St B w0 w (r0 :: Reg.box b o :: r2 :: r3 :: r4 :: r5 :: r6 :: r7 :: r8 :: r9 :: Reg.box b' o' :: L)) : b ≠ b' := St.neOf (l := [r0]) (m := [r2, r3, r4, r5, r6, r7, r8, r9]) h
theorem St.ne23 {B : Nat} {w0 w : World} {r0 r1 : Reg} {L : List Reg} {b b' : Nat} {o o' : Obj} (h : St B w0 w (r0 :: r1 :: Reg.box b o :: Reg.box b' o' :: L)) : b ≠ b' := St.neOf (l := [r0, r1]) (m := []) h
theorem St.ne24 {B : Nat} {w0 w : World} {r0 r1 r3 : Reg} {L : List Reg} {b b' : Nat} {o o' : Obj} (h : St B w0 w (r0 :: r1 :: Reg.box b o :: r3 :: Reg.box b' o' :: L)) : b ≠ b' := St.neOf (l := [r0, r1]) (m := [r3]) h
theorem St.ne25 {B : Nat} {w0 w : World} {r0 r1 r3 r4 : Reg} {L : List Reg} {b b' : Nat} {o o' : Obj} (h : St B w0 w (r0 :: r1 :: Reg.box b o :: r3 :: r4 :: Reg.box b' o' :: L)) : b ≠ b' := St.neOf (l := [r0, r1]) (m := [r3, r4]) h
theorem St.ne26 {B : Nat} {w0 w : World} {r0 r1 r3 r4 r5 : Reg} {L : List Reg} {b b' : Nat} {o o' : Obj} (h : St B w0 w (r0 :: r1 :: Reg.box b o :: r3 :: r4 :: r5 :: Reg.box b' o' :: L)) : b ≠ b' := St.neOf (l := [r0, r1]) (m := [r3, r4, r5]) h
theorem St.ne27 {B : Nat} {w0 w : World} {r0 r1 r3 r4 r5 r6 : Reg} {L : List Reg} {b b' : Nat} {o o' : Obj} (h : St B w0 w (r0 :: r1 :: Reg.box b o :: r3 :: r4 :: r5 :: r6 :: Reg.box b' o' :: L)) : b ≠ b' := St.neOf (l := [r0, r1]) (m := [r3, r4, r5, r6]) h
theorem St.ne28 {B : Nat} {w0 w : World} {r0 r1 r3 r4 r5 r6 r7 : Reg} {L : List Reg} {b b' : Nat} {o o' : Obj} (h : St B w0 w (r0 :: r1 :: Reg.box b o :: r3 :: r4 :: r5 :: r6 :: r7 :: Reg.box b' o' :: L)) : b ≠ b' := St.neOf (l := [r0, r1]) (m := [r3, r4, r5, r6, r7]) h
theorem St.ne29 {B : Nat} {w0 w : World} {r0 r1 r3 r4 r5 r6 r7 r8 : Reg} {L : List Reg} {b b' : Nat} {o o' : Obj} (h : St B w0 w (r0 :: r1 :: Reg.box b o :: r3 :: r4 :: r5 :: r6 :: r7 :: r8 :: Reg.box b' o' :: L)) : b ≠ b' := St.neOf (l := [r0, r1]) (m := [r3, r4, r5, r6, r7, r8]) h
theorem St.ne2_10 {B : Nat} {w0 w : World} {r0 r1 r3 r4 r5 r6 r7 r8 r9 : Reg} {L : List Reg} {b b' : Nat} {o o' : Obj} (h : St B w0 w (r0 :: r1 :: Reg.box b o :: r3 :: r4 :: r5 :: r6 :: r7 :: r8 :: r9 :: Reg.box b' o' :: L)) : b ≠ b' := St.neOf (l := [r0, r1]) (m := [r3, r4, r5, r6, r7, r8, r9]) h
theorem St.ne34 {B : Nat} {w0 w : World} {r0 r1 r2 : Reg} {L : List Reg} {b b' : Nat} {o o' : Obj} (h : St B w0 w (r0 :: r1 :: r2 :: Reg.box b o :: Reg.box b' o' :: L)) : b ≠ b' := St.neOf (l := [r0, r1, r2]) (m := []) h
theorem St.ne35 {B : Nat} {w0 w : World} {r0 r1 r2 r4 : Reg} {L : List Reg} {b b' : Nat} {o o' : Obj} (h : St B w0 w (r0 :: r1 :: r2 :: Reg.box b o :: r4 :: Reg.box b' o' :: L)) : b ≠ b' := St.neOf (l := [r0, r1, r2]) (m := [r4]) h
theorem St.ne36 {B : Nat} {w0 w : World} {r0 r1 r2 r4 r5 : Reg} {L : List Reg} {b b' : Nat} {o o' : Obj} (h : St B w0 w (r0 :: r1 :: r2 :: Reg.box b o :: r4 :: r5 :: Reg.box b' o' :: L)) : b ≠ b' := St.neOf (l := [r0, r1, r2]) (m := [r4, r5]) h
theorem St.ne37 {B : Nat} {w0 w : World} {r0 r1 r2 r4 r5 r6 : Reg} {L : List Reg} {b b' : Nat} {o o' : Obj} (h : St B w0 w (r0 :: r1 :: r2 :: Reg.box b o :: r4 :: r5 :: r6 :: Reg.box b' o' :: L)) : b ≠ b' := St.neOf (l := [r0, r1, r2]) (m := [r4, r5, r6]) h
theorem St.ne38 {B : Nat} {w0 w : World} {r0 r1 r2 r4 r5 r6 r7 : Reg} {L : List Reg} {b b' : Nat} {o o' : Obj} (h : St B w0 w (r0 :: r1 :: r2 :: Reg.box b o :: r4 :: r5 :: r6 :: r7 :: Reg.box b' o' :: L)) : b ≠ b' := St.neOf (l := [r0, r1, r2]) (m := [r4, r5, r6, r7]) h
theorem St.ne39 {B : Nat} {w0 w : World} {r0 r1 r2 r4 r5 r6 r7 r8 : Reg} {L : List Reg} {b b' : Nat} {o o' : Obj} (h : St B w0 w (r0 :: r1 :: r2 :: Reg.box b o :: r4 :: r5 :: r6 :: r7 :: r8 :: Reg.box b' o' :: L)) : b ≠ b' := St.neOf (l := [r0, r1, r2]) (m := [r4, r5, r6, r7, r8]) h
theorem St.ne3_10 {B : Nat} {w0 w : World} {r0 r1 r2 r4 r5 r6 r7 r8 r9 : Reg} {L : List Reg} {b b' : Nat} {o o' : Obj} (h : St B w0 w (r0 :: r1 :: r2 :: Reg.box b o :: r4 :: r5 :: r6 :: r7 :: r8 :: r9 :: Reg.box b' o' :: L)) : b ≠ b' := St.neOf (l := [r0, r1, r2]) (m := [r4, r5, r6, r7, r8, r9]) h
theorem St.ne45 {B : Nat} {w0 w : World} {r0 r1 r2 r3 : Reg} {L : List Reg} {b b' : Nat} {o o' : Obj} (h : St B w0 w (r0 :: r1 :: r2 :: r3 :: Reg.box b o :: Reg.box b' o' :: L)) : b ≠ b' := St.neOf (l := [r0, r1, r2, r3]) (m := []) h
theorem St.ne46 {B : Nat} {w0 w : World} {r0 r1 r2 r3 r5 : Reg} {L : List Reg} {b b' : Nat} {o o' : Obj} (h : St B w0 w (r0 :: r1 :: r2 :: r3 :: Reg.box b o :: r5 :: Reg.box b' o' :: L)) : b ≠ b' := St.neOf (l := [r0, r1, r2, r3]) (m := [r5]) h
theorem St.ne47 {B : Nat} {w0 w : World} {r0 r1 r2 r3 r5 r6 : Reg} {L : List Reg} {b b' : Nat} {o o' : Obj} (h : St B w0 w (r0 :: r1 :: r2 :: r3 :: Reg.box b o :: r5 :: r6 :: Reg.box b' o' :: L)) : b ≠ b' := St.neOf (l := [r0, r1, r2, r3]) (m := [r5, r6]) h
theorem St.ne48 {B : Nat} {w0 w : World} {r0 r1 r2 r3 r5 r6 r7 : Reg} {L : List Reg} {b b' : Nat} {o o' : Obj} (h : St B w0 w (r0 :: r1 :: r2 :: r3 :: Reg.box b o :: r5 :: r6 :: r7 :: Reg.box b' o' :: L)) : b ≠ b' := St.neOf (l := [r0, r1, r2, r3]) (m := [r5, r6, r7]) h
theorem St.ne49 {B : Nat} {w0 w : World} {r0 r1 r2 r3 r5 r6 r7 r8 : Reg} {L : List Reg} {b b' : Nat} {o o' : Obj} (h : St B w0 w (r0 :: r1 :: r2 :: r3 :: Reg.box b o :: r5 :: r6 :: r7 :: r8 :: Reg.box b' o' :: L)) : b ≠ b' := St.neOf (l := [r0, r1, r2, r3]) (m := [r5, r6, r7, r8]) h
theorem St.ne4_10 {B : Nat} {w0 w : World} {r0 r1 r2 r3 r5 r6 r7 r8 r9 : Reg} {L : List Reg} {b b' : Nat} {o o' : Obj} (h : St B w0 w (r0 :: r1 :: r2 :: r3 :: Reg.box b o :: r5 :: r6 :: r7 :: r8 :: r9 :: Reg.box b' o' :: L)) : b ≠ b' := St.neOf (l := [r0, r1, r2, r3]) (m := [r5, r6, r7, r8, r9]) h
theorem St.ne56 {B : Nat} {w0 w : World} {r0 r1 r2 r3 r4 : Reg} {L : List Reg} {b b' : Nat} {o o' : Obj} (h : St B w0 w (r0 :: r1 :: r2 :: r3 :: r4 :: Reg.box b o :: Reg.box b' o' :: L)) : b ≠ b' := St.neOf (l := [r0, r1, r2, r3, r4]) (m := []) h
theorem St.ne57 {B : Nat} {w0 w : World} {r0 r1 r2 r3 r4 r6 : Reg} {L : List Reg} {b b' : Nat} {o o' : Obj} (h : St B w0 w (r0 :: r1 :: r2 :: r3 :: r4 :: Reg.box b o :: r6 :: Reg.box b' o' :: L)) : b ≠ b' := St.neOf (l := [r0, r1, r2, r3, r4]) (m := [r6]) h
theorem St.ne58 {B : Nat} {w0 w : World} {r0 r1 r2 r3 r4 r6 r7 : Reg} {L : List Reg} {b b' : Nat} {o o' : Obj} (h : St B w0 w (r0 :: r1 :: r2 :: r3 :: r4 :: Reg.box b o :: r6 :: r7 :: Reg.box b' o' :: L)) : b ≠ b' := St.neOf (l := [r0, r1, r2, r3, r4]) (m := [r6, r7]) h
theorem St.ne59 {B : Nat} {w0 w : World} {r0 r1 r2 r3 r4 r6 r7 r8 : Reg} {L : List Reg} {b b' : Nat} {o o' : Obj} (h : St B w0 w (r0 :: r1 :: r2 :: r3 :: r4 :: Reg.box b o :: r6 :: r7 :: r8 :: Reg.box b' o' :: L)) : b ≠ b' := St.neOf (l := [r0, r1, r2, r3, r4]) (m := [r6, r7, r8]) h
theorem St.ne5_10 {B : Nat} {w0 w : World} {r0 r1 r2 r3 r4 r6 r7 r8 r9 : Reg} {L : List Reg} {b b' : Nat} {o o' : Obj} (h : St B w0 w (r0 :: r1 :: r2 :: r3 :: r4 :: Reg.box b o :: r6 :: r7 :: r8 :: r9 :: Reg.box b' o' :: L)) : b ≠ b' := St.neOf (l := [r0, r1, r2, r3, r4]) (m := [r6, r7, r8, r9]) h
theorem St.ne67 {B : Nat} {w0 w : World} {r0 r1 r2 r3 r4 r5 : Reg} {L : List Reg} {b b' : Nat} {o o' : Obj} (h : St B w0 w (r0 :: r1 :: r2 :: r3 :: r4 :: r5 :: Reg.box b o :: Reg.box b' o' :: L)) : b ≠ b' := St.neOf (l := [r0, r1, r2, r3, r4, r5]) (m := []) h
theorem St.ne68 {B : Nat} {w0 w : World} {r0 r1 r2 r3 r4 r5 r7 : Reg} {L : List Reg} {b b' : Nat} {o o' : Obj} (h : St B w0 w (r0 :: r1 :: r2 :: r3 :: r4 :: r5 :: Reg.box b o :: r7 :: Reg.box b' o' :: L)) : b ≠ b' := St.neOf (l := [r0, r1, r2, r3, r4, r5]) (m := [r7]) h
theorem St.ne69 {B : Nat} {w0 w : World} {r0 r1 r2 r3 r4 r5 r7 r8 : Reg} {L : List Reg} {b b' : Nat} {o o' : Obj} (h : St B w0 w (r0 :: r1 :: r2 :: r3 :: r4 :: r5 :: Reg.box b o :: r7 :: r8 :: Reg.box b' o' :: L)) : b ≠ b' := St.neOf (l := [r0, r1, r2, r3, r4, r5]) (m := [r7, r8]) h
theorem St.ne6_10 {B : Nat} {w0 w : World} {r0 r1 r2 r3 r4 r5 r7 r8 r9 : Reg} {L : List Reg} {b b' : Nat} {o o' : Obj} (h : St B w0 w (r0 :: r1 :: r2 :: r3 :: r4 :: r5 :: Reg.box b o :: r7 :: r8 :: r9 :: Reg.box b' o' :: L)) : b ≠ b' := St.neOf (l := [r0, r1, r2, r3, r4, r5]) (m := [r7, r8, r9]) h
theorem St.ne78 {B : Nat} {w0 w : World} {r0 r1 r2 r3 r4 r5 r6 : Reg} {L : List Reg} {b b' : Nat} {o o' : Obj} (h : St B w0 w (r0 :: r1 :: r2 :: r3 :: r4 :: r5 :: r6 :: Reg.box b o :: Reg.box b' o' :: L)) : b ≠ b' := St.neOf (l := [r0, r1, r2, r3, r4, r5, r6]) (m := []) h
theorem St.ne79 {B : Nat} {w0 w : World} {r0 r1 r2 r3 r4 r5 r6 r8 : Reg} {L : List Reg} {b b' : Nat} {o o' : Obj} (h : St B w0 w (r0 :: r1 :: r2 :: r3 :: r4 :: r5 :: r6 :: Reg.box b o :: r8 :: Reg.box b' o' :: L)) : b ≠ b' := St.neOf (l := [r0, r1, r2, r3, r4, r5, r6]) (m := [r8]) h
theorem St.ne7_10 {B : Nat} {w0 w : World} {r0 r1 r2 r3 r4 r5 r6 r8 r9 : Reg} {L : List Reg} {b b' : Nat} {o o' : Obj} (h : St B w0 w (r0 :: r1 :: r2 :: r3 :: r4 :: r5 :: r6 :: Reg.box b o :: r8 :: r9 :: Reg.box b' o' :: L)) : b ≠ b' := St.neOf (l := [r0, r1, r2, r3, r4, r5, r6]) (m := [r8, r9]) h
theorem St.ne89 {B : Nat} {w0 w : World} {r0 r1 r2 r3 r4 r5 r6 r7 : Reg} {L : List Reg} {b b' : Nat} {o o' : Obj} (h : St B w0 w (r0 :: r1 :: r2 :: r3 :: r4 :: r5 :: r6 :: r7 :: Reg.box b o :: Reg.box b' o' :: L)) : b ≠ b' := St.neOf (l := [r0, r1, r2, r3, r4, r5, r6, r7]) (m := []) h
theorem St.ne8_10 {B : Nat} {w0 w : World} {r0 r1 r2 r3 r4 r5 r6 r7 r9 : Reg} {L : List Reg} {b b' : Nat} {o o' : Obj} (h : St B w0 w (r0 :: r1 :: r2 :: r3 :: r4 :: r5 :: r6 :: r7 :: Reg.box b o :: r9 :: Reg.box b' o' :: L)) : b ≠ b' := St.neOf (l := [r0, r1, r2, r3, r4, r5, r6, r7]) (m := [r9]) h
theorem St.ne9_10 {B : Nat} {w0 w : World} {r0 r1 r2 r3 r4 r5 r6 r7 r8 : Reg} {L : List Reg} {b b' : Nat} {o o' : Obj} (h : St B w0 w (r0 :: r1 :: r2 :: r3 :: r4 :: r5 :: r6 :: r7 :: r8 :: Reg.box b o :: Reg.box b' o' :: L)) : b ≠ b' := St.neOf (l := [r0, r1, r2, r3, r4, r5, r6, r7, r8]) (m := []) h
theorem cells1 {w : World} {b : Nat} {v0 : Value} {t : TypeId} (h : w.heap[b]? = some (.cells #[v0] t (0, 0))) :
    w.cell? ⟨b, 0, none⟩ = some v0 ∧ (∀ o, w.frozen? ⟨b, o, none⟩ = false) ∧ b < w.heap.size :=
  ⟨blk_cell h, fun _ => blk_free h, lt_of_block h⟩
theorem cells2 {w : World} {b : Nat} {v0 v1 : Value} {t : TypeId} (h : w.heap[b]? = some (.cells #[v0, v1] t (0, 0))) :
    w.cell? ⟨b, 0, none⟩ = some v0 ∧ w.cell? ⟨b, 1, none⟩ = some v1 ∧ (∀ o, w.frozen? ⟨b, o, none⟩ = false) ∧ b < w.heap.size :=
  ⟨blk_cell h, blk_cell h, fun _ => blk_free h, lt_of_block h⟩
theorem cells3 {w : World} {b : Nat} {v0 v1 v2 : Value} {t : TypeId} (h : w.heap[b]? = some (.cells #[v0, v1, v2] t (0, 0))) :
    w.cell? ⟨b, 0, none⟩ = some v0 ∧ w.cell? ⟨b, 1, none⟩ = some v1 ∧ w.cell? ⟨b, 2, none⟩ = some v2 ∧ (∀ o, w.frozen? ⟨b, o, none⟩ = false) ∧ b < w.heap.size :=
  ⟨blk_cell h, blk_cell h, blk_cell h, fun _ => blk_free h, lt_of_block h⟩
theorem cells4 {w : World} {b : Nat} {v0 v1 v2 v3 : Value} {t : TypeId} (h : w.heap[b]? = some (.cells #[v0, v1, v2, v3] t (0, 0))) :
    w.cell? ⟨b, 0, none⟩ = some v0 ∧ w.cell? ⟨b, 1, none⟩ = some v1 ∧ w.cell? ⟨b, 2, none⟩ = some v2 ∧ w.cell? ⟨b, 3, none⟩ = some v3 ∧ (∀ o, w.frozen? ⟨b, o, none⟩ = false) ∧ b < w.heap.size :=
  ⟨blk_cell h, blk_cell h, blk_cell h, blk_cell h, fun _ => blk_free h, lt_of_block h⟩
theorem cells5 {w : World} {b : Nat} {v0 v1 v2 v3 v4 : Value} {t : TypeId} (h : w.heap[b]? = some (.cells #[v0, v1, v2, v3, v4] t (0, 0))) :
    w.cell? ⟨b, 0, none⟩ = some v0 ∧ w.cell? ⟨b, 1, none⟩ = some v1 ∧ w.cell? ⟨b, 2, none⟩ = some v2 ∧ w.cell? ⟨b, 3, none⟩ = some v3 ∧ w.cell? ⟨b, 4, none⟩ = some v4 ∧ (∀ o, w.frozen? ⟨b, o, none⟩ = false) ∧ b < w.heap.size :=
  ⟨blk_cell h, blk_cell h, blk_cell h, blk_cell h, blk_cell h, fun _ => blk_free h, lt_of_block h⟩
theorem cells6 {w : World} {b : Nat} {v0 v1 v2 v3 v4 v5 : Value} {t : TypeId} (h : w.heap[b]? = some (.cells #[v0, v1, v2, v3, v4, v5] t (0, 0))) :
    w.cell? ⟨b, 0, none⟩ = some v0 ∧ w.cell? ⟨b, 1, none⟩ = some v1 ∧ w.cell? ⟨b, 2, none⟩ = some v2 ∧ w.cell? ⟨b, 3, none⟩ = some v3 ∧ w.cell? ⟨b, 4, none⟩ = some v4 ∧ w.cell? ⟨b, 5, none⟩ = some v5 ∧ (∀ o, w.frozen? ⟨b, o, none⟩ = false) ∧ b < w.heap.size :=
  ⟨blk_cell h, blk_cell h, blk_cell h, blk_cell h, blk_cell h, blk_cell h, fun _ => blk_free h, lt_of_block h⟩
theorem cells7 {w : World} {b : Nat} {v0 v1 v2 v3 v4 v5 v6 : Value} {t : TypeId} (h : w.heap[b]? = some (.cells #[v0, v1, v2, v3, v4, v5, v6] t (0, 0))) :
    w.cell? ⟨b, 0, none⟩ = some v0 ∧ w.cell? ⟨b, 1, none⟩ = some v1 ∧ w.cell? ⟨b, 2, none⟩ = some v2 ∧ w.cell? ⟨b, 3, none⟩ = some v3 ∧ w.cell? ⟨b, 4, none⟩ = some v4 ∧ w.cell? ⟨b, 5, none⟩ = some v5 ∧ w.cell? ⟨b, 6, none⟩ = some v6 ∧ (∀ o, w.frozen? ⟨b, o, none⟩ = false) ∧ b < w.heap.size :=
  ⟨blk_cell h, blk_cell h, blk_cell h, blk_cell h, blk_cell h, blk_cell h, blk_cell h, fun _ => blk_free h, lt_of_block h⟩
theorem cells8 {w : World} {b : Nat} {v0 v1 v2 v3 v4 v5 v6 v7 : Value} {t : TypeId} (h : w.heap[b]? = some (.cells #[v0, v1, v2, v3, v4, v5, v6, v7] t (0, 0))) :
    w.cell? ⟨b, 0, none⟩ = some v0 ∧ w.cell? ⟨b, 1, none⟩ = some v1 ∧ w.cell? ⟨b, 2, none⟩ = some v2 ∧ w.cell? ⟨b, 3, none⟩ = some v3 ∧ w.cell? ⟨b, 4, none⟩ = some v4 ∧ w.cell? ⟨b, 5, none⟩ = some v5 ∧ w.cell? ⟨b, 6, none⟩ = some v6 ∧ w.cell? ⟨b, 7, none⟩ = some v7 ∧ (∀ o, w.frozen? ⟨b, o, none⟩ = false) ∧ b < w.heap.size :=
  ⟨blk_cell h, blk_cell h, blk_cell h, blk_cell h, blk_cell h, blk_cell h, blk_cell h, blk_cell h, fun _ => blk_free h, lt_of_block h⟩

theorem cutK {P : Program} {x : Code} {K : Act → World → Prop} {Q : Exit → Act → World → Prop} {a : Act} {w : World} (M : Act → Act → World → Prop) (h : ∀ a' w', M a a' w' → K a' w') (hx : x.wp P (Exit.then (M a) Q) a w) : x.wp P (Exit.then K Q) a w :=
  wp_mono hx fun e a' w' q => by cases e <;> first | exact h _ _ q | exact q
/-- A cut: behind x the frame and the world are as M says (M is told the frame ahead of x); K is shut while x is walked. -/
theorem cutO {P : Program} {x : Code} {K0 : Act → World → Prop} {Q : Exit → Act → World → Prop} {a : Act} {w : World} (M : Act → Act → World → Prop) (h : ∀ a' w', M a a' w' → K0 a' w')
    (hx : ∀ K : Act → World → Prop, Hid (∀ a' w', M a a' w' → K a' w') → x.wp P (Exit.then K Q) a w) : x.wp P (Exit.then K0 Q) a w := hx K0 h
theorem keepS {w w' : World} (hb : Below w.heap.size w w') {b o : Nat} {v : Value} (h : w.cell? ⟨b, o, none⟩ = some v) : w'.cell? ⟨b, o, none⟩ = some v :=
  (hb.cell (p := ⟨b, o, none⟩) (World.block_lt_of_cell? w _ h)).trans h
theorem cellA {w : World} {b o : Nat} {v : Value} {ob : Obj} (h : w.cell? ⟨b, o, none⟩ = some v) : (w.alloc ob).cell? ⟨b, o, none⟩ = some v :=
  (World.cell?_alloc_lt w ob ⟨b, o, none⟩ (World.block_lt_of_cell? w _ h)).trans h
end Go.Proofs.Ytkhlhnpoieolhaa

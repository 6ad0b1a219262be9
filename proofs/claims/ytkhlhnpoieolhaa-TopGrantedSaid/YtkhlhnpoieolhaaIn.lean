/-
  The walks of the law's own reader of bytes (more, next).
-/
import Derived.Test.YtkhlhnpoieolhaaRd
namespace Go.Proofs.Ytkhlhnpoieolhaa
open Go.RowKit
set_option linter.unusedSimpArgs false
set_option linter.unusedVariables false

/-- The reader's block: what is read, and how far it has got. -/
def inObj (a : Option Addr) (n c p : Nat) : Obj := .cells #[.slice a n c, .int .i64 p] 29 (0, 0)
set_option maxHeartbeats 400000 in
theorem more_any (g : Nat) (a : Option Addr) (n c p : Nat) (w : World) (hg : w.heap[g]? = some (inObj a n c p)) :
    Calls Try.prog 9 #[.pointer (some ⟨g, 0, none⟩)] w fun e w' => e = .returned (.bool (decide (p < n))) ∧ ∃ k, w' = w.drewN k := by
  obtain ⟨c0, c1, cf, cl⟩ := cells2 hg
  clear hg
  go_enter Try.func9, Try.ntmps9
  go_wp2
  go_quiet (fail)
  go_wp2
  go_ret
  exact ⟨by first | rfl | (congr 2; simp), _, rfl⟩
/-- What comes next, below m; where it stands then. -/
def nextV (l : List Int) (p : Nat) (m : Int) : Int := if p < l.length then l.getD p 0 % m else 0
def nextP (l : List Int) (p : Nat) : Nat := if p < l.length then p + 1 else p
theorem next_any (g : Nat) (a : Option Addr) (n c p : Nat) (l : List Int) (m : Int) (w : World) (hg : w.heap[g]? = some (inObj a n c p)) (hl : RdB w a n l) (hb : ∀ x ∈ l, 0 ≤ x ∧ x ≤ 255) (hne : ∀ x, a = some x → x.block ≠ g) (hm : 1 ≤ m) (hm' : m ≤ 1000) (hp : p ≤ n) :
    Calls Try.prog 10 #[.pointer (some ⟨g, 0, none⟩), .int .i64 m] w fun e w' => e = .returned (.int .i64 (nextV l p m)) ∧ Upd g (inObj a n c (nextP l p)) w w' := by
  obtain ⟨c0, c1, cf, cl⟩ := cells2 hg
  have Hg := Lib.hid hg
  clear hg
  have hmax := hl.2.1
  unfold maxLen at hmax
  by_cases h : p < n
  · obtain ⟨b, off, rfl, hc⟩ := hl.cell h
    have hbg : b ≠ g := hne _ rfl
    have hx := hb (l.getD p 0) (by rw [List.getD_eq_getElem?_getD, List.getElem?_eq_getElem (by rw [hl.1]; exact h)]; exact List.getElem_mem _)
    obtain ⟨x, hxe⟩ : ∃ x, l.getD p 0 = x := ⟨_, rfl⟩
    rw [hxe] at hc hx
    have hc' : (w.setCell ⟨g, 1, none⟩ (.int .i64 (↑p + 1))).cell? ⟨b, off + p, none⟩ = some (.int .u8 x) := cellSet hc hbg
    obtain ⟨hx0, hx1⟩ := hx
    have Hx := Lib.hid hxe
    have HL := Lib.hid hl
    clear hxe hl hb hne
    go_enter Try.func10, Try.ntmps10
    go_wp2
    go_quiet (fail)
    go_wp2
    go_quiet (fail)
    go_wp2
    go_ret
    refine ⟨?_, ?_⟩
    · simp only [nextV]
      rw [if_pos (by rw [HL.out.1]; exact h), Hx.out]
      rfl
    · rw [show nextP l p = p + 1 by simp only [nextP]; rw [if_pos (by rw [HL.out.1]; exact h)]]
      exact (((Upd.refl Hg.out).drewN _).setCell 1 _).drewN _
  · have hx0 : n ≤ p := by omega
    have HL := Lib.hid hl
    clear hl hb hne
    go_enter Try.func10, Try.ntmps10
    go_wp2
    go_quiet (fail)
    go_wp2
    go_ret
    refine ⟨?_, ?_⟩
    · simp only [nextV]
      rw [if_neg (by rw [HL.out.1]; exact h)]
      rfl
    · rw [show nextP l p = p by simp only [nextP]; rw [if_neg (by rw [HL.out.1]; exact h)]]
      exact (Upd.refl Hg.out).drewN _
end Go.Proofs.Ytkhlhnpoieolhaa

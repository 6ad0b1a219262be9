/-
  The walks of slices.Equal at the arbiter's cells and answers: two slices that read as one list are equal.
-/
import Derived.Test.YtkhlhnpoieolhaaRd
namespace Go.Proofs.Ytkhlhnpoieolhaa
open Go.RowKit
set_option linter.unusedSimpArgs false
set_option linter.unusedVariables false

/-- A plea, a cell, an answer, as numbers; and the cells that they take up. -/
structure PL where
  n : Int
  e : Int
  b : Int
structure CL where
  c : Int
  h : Int
structure AL where
  p : PL
  g : Bool
  c : CL
def plC (x : PL) : List Value := [.int .i64 x.n, .int .u64 x.e, .int .u64 x.b]
def clC (x : CL) : List Value := [.int .u64 x.c, .int .i64 x.h]
def alC (x : AL) : List Value := [.int .i64 x.p.n, .int .u64 x.p.e, .int .u64 x.p.b, .bool x.g, .int .u64 x.c.c, .int .i64 x.c.h]

set_option maxHeartbeats 400000 in
theorem equalC (a1 a2 : Option Addr) (n c1 c2 : Nat) (l : List CL) (w : World) (h1 : Rd clC 2 w a1 n l) (h2 : Rd clC 2 w a2 n l) :
    Calls Try.prog 16 #[.slice a1 n c1, .slice a2 n c2] w fun e w' => e = .returned (.bool true) ∧ ∃ k, w' = w.drewN k := by
  have hmax := h1.2.1
  unfold maxLen at hmax
  have HL := Lib.hid h1
  have HR := Lib.hid h2
  clear h1 h2
  go_enter Try.func16, Try.ntmps16
  go_wp2
  go_loopw [5, 13] (fun u v wr => ∃ k : Nat, k ≤ n ∧ v = .int .i64 k ∧ ∃ q, wr = w.drewN q) (fun _ v _ => n - (intOf v).toNat)
  case atStart => exact ⟨0, Nat.zero_le _, rfl, 0, rfl⟩
  case round =>
    obtain ⟨k, hk, rfl, q, rfl⟩ := hrel
    by_cases hlt : k < n
    · obtain ⟨b1, o1, rfl, hc1⟩ := HL.out.2.2 (by omega)
      obtain ⟨b2, o2, rfl, hc2⟩ := HR.out.2.2 (by omega)
      obtain ⟨x, hx⟩ : ∃ x, l[k]? = some x := ⟨_, List.getElem?_eq_getElem (by rw [HL.out.1]; exact hlt)⟩
      have f1_0 : w.cell? ⟨b1, o1 + k * 2, none⟩ = some (.int .u64 x.c) := hc1 k x hx 0 _ rfl
      have f1_1 : w.cell? ⟨b1, o1 + k * 2 + 1, none⟩ = some (.int .i64 x.h) := hc1 k x hx 1 _ rfl
      have f2_0 : w.cell? ⟨b2, o2 + k * 2, none⟩ = some (.int .u64 x.c) := hc2 k x hx 0 _ rfl
      have f2_1 : w.cell? ⟨b2, o2 + k * 2 + 1, none⟩ = some (.int .i64 x.h) := hc2 k x hx 1 _ rfl
      clear hc1 hc2 hx
      go_wp2
      go_quiet (fail)
      go_wp2
      go_roundw
      case rel => exact ⟨k + 1, by omega, by go_num, _, rfl⟩
      case measure => simp [intOf]; omega
    · go_wp2
      go_ret
      exact ⟨rfl, q, rfl⟩

set_option maxHeartbeats 400000 in
theorem equalA (a1 a2 : Option Addr) (n c1 c2 : Nat) (l : List AL) (w : World) (h1 : Rd alC 6 w a1 n l) (h2 : Rd alC 6 w a2 n l) :
    Calls Try.prog 15 #[.slice a1 n c1, .slice a2 n c2] w fun e w' => e = .returned (.bool true) ∧ ∃ k, w' = w.drewN k := by
  have hmax := h1.2.1
  unfold maxLen at hmax
  have HL := Lib.hid h1
  have HR := Lib.hid h2
  clear h1 h2
  go_enter Try.func15, Try.ntmps15
  go_wp2
  go_loopw [5, 13] (fun u v wr => ∃ k : Nat, k ≤ n ∧ v = .int .i64 k ∧ ∃ q, wr = w.drewN q) (fun _ v _ => n - (intOf v).toNat)
  case atStart => exact ⟨0, Nat.zero_le _, rfl, 0, rfl⟩
  case round =>
    obtain ⟨k, hk, rfl, q, rfl⟩ := hrel
    by_cases hlt : k < n
    · obtain ⟨b1, o1, rfl, hc1⟩ := HL.out.2.2 (by omega)
      obtain ⟨b2, o2, rfl, hc2⟩ := HR.out.2.2 (by omega)
      obtain ⟨x, hx⟩ : ∃ x, l[k]? = some x := ⟨_, List.getElem?_eq_getElem (by rw [HL.out.1]; exact hlt)⟩
      have f1_0 : w.cell? ⟨b1, o1 + k * 6, none⟩ = some (.int .i64 x.p.n) := hc1 k x hx 0 _ rfl
      have f1_1 : w.cell? ⟨b1, o1 + k * 6 + 1, none⟩ = some (.int .u64 x.p.e) := hc1 k x hx 1 _ rfl
      have f1_2 : w.cell? ⟨b1, o1 + k * 6 + 2, none⟩ = some (.int .u64 x.p.b) := hc1 k x hx 2 _ rfl
      have f1_3 : w.cell? ⟨b1, o1 + k * 6 + 3, none⟩ = some (.bool x.g) := hc1 k x hx 3 _ rfl
      have f1_4 : w.cell? ⟨b1, o1 + k * 6 + 4, none⟩ = some (.int .u64 x.c.c) := hc1 k x hx 4 _ rfl
      have f1_5 : w.cell? ⟨b1, o1 + k * 6 + 5, none⟩ = some (.int .i64 x.c.h) := hc1 k x hx 5 _ rfl
      have f2_0 : w.cell? ⟨b2, o2 + k * 6, none⟩ = some (.int .i64 x.p.n) := hc2 k x hx 0 _ rfl
      have f2_1 : w.cell? ⟨b2, o2 + k * 6 + 1, none⟩ = some (.int .u64 x.p.e) := hc2 k x hx 1 _ rfl
      have f2_2 : w.cell? ⟨b2, o2 + k * 6 + 2, none⟩ = some (.int .u64 x.p.b) := hc2 k x hx 2 _ rfl
      have f2_3 : w.cell? ⟨b2, o2 + k * 6 + 3, none⟩ = some (.bool x.g) := hc2 k x hx 3 _ rfl
      have f2_4 : w.cell? ⟨b2, o2 + k * 6 + 4, none⟩ = some (.int .u64 x.c.c) := hc2 k x hx 4 _ rfl
      have f2_5 : w.cell? ⟨b2, o2 + k * 6 + 5, none⟩ = some (.int .i64 x.c.h) := hc2 k x hx 5 _ rfl
      clear hc1 hc2 hx
      go_wp2
      go_quiet (fail)
      go_wp2
      go_roundw
      case rel => exact ⟨k + 1, by omega, by go_num, _, rfl⟩
      case measure => simp [intOf]; omega
    · go_wp2
      go_ret
      exact ⟨rfl, q, rfl⟩
end Go.Proofs.Ytkhlhnpoieolhaa

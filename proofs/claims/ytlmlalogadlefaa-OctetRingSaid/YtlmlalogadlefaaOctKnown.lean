/- What every statement of the layer asks besides: two bytes there and back. -/
import Derived.Test.YtlmlalogadlefaaOctF
set_option linter.unusedVariables false
namespace Go.Proofs.Ytlmlalogadlefaa
open Go.RowKit

theorem known_put (w : World) : Calls Try.prog 11 #[.int .u64 258, .int .i64 2] w fun e w' => ∃ g c, e = .returned (.tuple #[.slice (some ⟨g, 0, none⟩) 2 c, .int .i64 0]) ∧
    w'.cell? ⟨g, 0, none⟩ = some (.int .u8 1) ∧ w'.cell? ⟨g, 1, none⟩ = some (.int .u8 2) ∧ g < w'.heap.size ∧ Below w.heap.size w w' :=
  (put_loop 258 2 w (by decide) (by decide) (by decide) (by intro _; decide)).mono fun e w' ⟨A, c, he, hown, hb⟩ => by
    obtain ⟨g, cap, hv, _, hlt⟩ := hown.form (by decide)
    injection hv with h1 h2 h3
    subst h1
    exact ⟨g, c, he, own_cell hown 0 (by decide), own_cell hown 1 (by decide), hlt, hb⟩
theorem rd_new (w : World) (l : List UInt8) (n : Nat) (hn : n = l.length) (hm : n ≤ 140737488355328) : Rd (w.alloc (.cells (l.map B8).toArray 5)) (some ⟨w.heap.size, 0, none⟩) n n l :=
  ⟨hn, Nat.le_refl _, by unfold maxLen; omega, fun h0 => ⟨_, 0, rfl, fun j hj => by
    have := news_new w (l.map B8) 5 j (B8 (l.getD j 0)) (by simp [List.getD, List.getElem?_eq_getElem (show j < l.length by omega)])
    rw [Addr.add_lit] at this
    exact this⟩⟩
theorem known_get (w : World) : Calls Try.prog 15 #[.slice (some ⟨w.heap.size, 0, none⟩) 2 2] (w.alloc (.cells #[.int .u8 1, .int .u8 2] 5)) fun e w' => e = .returned (.tuple #[.int .u64 258, .int .i64 0]) ∧ w.alloc (.cells #[.int .u8 1, .int .u8 2] 5) = w' :=
  get_any _ 2 2 [1, 2] _ (rd_new w [1, 2] 2 rfl (by decide)) (by decide) (by decide)
theorem known_hex (w : World) (H : Nat) (hH : w.heap.size = H) : Calls Try.prog 18 #[.slice (some ⟨H, 0, none⟩) 2 2] (w.alloc (.cells #[.int .u8 0, .int .u8 175] 5)) fun e w' => e = .returned (.string ⟨#[48, 48, 97, 102]⟩) ∧ Below w.heap.size w w' :=
  (hex_any _ 2 2 [0, 175] _ (by subst hH; exact rd_new w [0, 175] 2 rfl (by decide)) (by decide)).mono fun e w' ⟨he, hb⟩ => ⟨he, (((Below.refl _ _).alloc (Nat.le_refl _) _).trans (hb.mono (by simp)))⟩

set_option maxHeartbeats 800000 in
theorem known_any (w : World) : Calls Try.prog 14 #[] w fun e w' => e = .returned (.bool true) ∧ Below w.heap.size w w' := by
  go_enter Try.func14, Try.ntmps14
  go_wp2_with fail
  refine (known_put _).mono ?_
  rintro e w1 ⟨g, c, rfl, hc0, hc1, hlt, hb1⟩
  go_wp2_with fail
  refine (known_get _).mono ?_
  rintro e w2 ⟨rfl, rfl⟩
  go_wp2_with fail
  refine (known_hex _ _ (by simp)).mono ?_
  rintro e w3 ⟨rfl, hb3⟩
  go_wp2
  go_ret
  refine ⟨rfl, ?_⟩
  exact (hb1.alloc hb1.size _).trans (hb3.mono (by have := hb1.size; simp; omega))
end Go.Proofs.Ytlmlalogadlefaa

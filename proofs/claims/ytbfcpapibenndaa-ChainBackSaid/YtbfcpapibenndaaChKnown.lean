/- The page that the laws of chain know. -/
import Derived.Test.YtbfcpapibenndaaChB
set_option linter.unusedVariables false
namespace Go.Proofs.Ytbfcpapibenndaa
open Go.RowKit

theorem known_page (w : World) : Calls Try.prog 14 #[.slice (some ⟨w.heap.size, 0, none⟩) 2 2, RefV 5 9 2] (w.alloc (.cells #[.int .u8 97, .int .u8 98] 5 (2, 3))) fun e w' =>
    ∃ A' c', e = .returned (.tuple #[.slice A' 224 c', .int .i64 0]) ∧ Rd w' A' 224 c' (pageB [97, 98] 5 9 2) ∧ Below w.heap.size w w' := by
  refine (page_any _ 2 2 [97, 98] 5 9 2 _ (Rd.marked w [97, 98] 2 (2, 3) rfl (by omega)) (by omega) (by omega) (by omega) (by omega) (by omega)).mono ?_
  rintro e w' ⟨A, c, rfl, h1, h2⟩
  exact ⟨A, c, rfl, h1.rd, (below_new1 _ _).trans (h2.mono (by simp))⟩
theorem known_pieces (w : World) : Calls Try.prog 10 #[.int .i64 209] w fun e w' => e = .returned (.tuple #[.int .i64 2, .int .i64 0]) ∧ w = w' :=
  pieces_any 209 w (by omega) (by omega)
def knownB : List UInt8 := [0, 0, 0, 5, 0, 0, 0, 0, 0, 0, 0, 9, 0, 2, 0, 2, 97, 98]
theorem knownB_eq : (pageB [97, 98] 5 9 2).take 18 = knownB := by decide +kernel

theorem known_any (w : World) : Calls Try.prog 12 #[] w fun e w' => e = .returned (.bool true) ∧ Below w.heap.size w w' := by
  have hcv := Lib.run_convert_bytes_const (P := Try.prog) w 27 5 #[.int .u8 97, .int .u8 98] 2 2 Try.underlying27 Try.underlying5
  go_enter Try.func12, Try.ntmps12
  go_wp2_with fail
  refine (known_page w).mono ?_
  rintro e w1 ⟨A, c, rfl, hrd, hb1⟩
  have hcap := hrd.cap
  have hs := (hrd.take_ 18 (by omega)).str (P := Try.prog) 27 5 9 Try.underlying27 Try.underlying5 Try.underlying9
  rw [knownB_eq] at hs
  have hs2 : (convert 27 9 (.slice A 18 c)).run Try.prog w1 = .ok (.string ⟨#[0, 0, 0, 5, 0, 0, 0, 0, 0, 0, 0, 9, 0, 2, 0, 2, 97, 98]⟩) w1 := hs
  clear hs hrd
  go_wp2_with fail
  refine (known_pieces _).mono ?_
  rintro e w2 ⟨rfl, rfl⟩
  go_wp2
  go_ret
  exact ⟨rfl, hb1⟩
end Go.Proofs.Ytbfcpapibenndaa

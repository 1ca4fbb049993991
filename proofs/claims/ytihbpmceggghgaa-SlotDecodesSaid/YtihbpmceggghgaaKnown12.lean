/- Contracts: the leaf that the laws of slot know. -/
import Derived.Test.YtihbpmceggghgaaEnc
import Derived.Lib.SlBytesConst
import Derived.Lib.SmallJoins
set_option linter.unusedVariables false
set_option linter.unusedSimpArgs false
namespace Go.Proofs.Ytihbpmceggghgaa
open Go.RowKit

def twoEs : List Ent := [⟨[97], [120], 0, r0, r0⟩, ⟨[98], [], 100, (5, 9, 2), r0⟩]
theorem k_conv (w : World) (C : Array Value) (n c g : Nat) (hg : g = w.heap.size) : Sem.run Try.prog (convert 34 34 (.slice (some ⟨g, 0, none⟩) n c)) (w.alloc (.cells C 5)) = .ok (.slice (some ⟨g, 0, none⟩) n c) (w.alloc (.cells C 5 (C.size, C.size + 1))) :=
  hg ▸ Lib.run_convert_bytes_const w 34 5 C n c Try.underlying34 Try.underlying5
attribute [local go_sem] k_conv
set_option maxHeartbeats 1600000 in
theorem two_any (w : World) : Calls Try.prog 25 #[] w fun e w' => ∃ A c, e = .returned (NdV 1 0 A 2 c) ∧ RdL w' A 2 c twoEs ∧ Below w.heap.size w w' := by
  go_enter Try.func25, Try.ntmps25
  go_wp2_with fail
  refine bodyPost_ret (v := NdV 1 0 (some ⟨w.heap.size + 1 + 1 + 1 + 1, 0, none⟩) 2 2) ?_ rfl ⟨_, 2, rfl, ?_, ?_⟩
  · simp [results, Try.results25, go_sem]
  · have m1 := fun (w : World) (H : Nat) (l : List UInt8) (hH : w.heap.size = H) (hl : l.length = 1) => hH ▸ Rd.marked w l 1 (1, 2) hl.symm (by omega)
    have hb := fun (w : World) (o : Obj) => below_new1 w o
    refine ⟨rfl, by omega, by unfold maxLen; omega, fun _ => ⟨_, 0, rfl, fun j hj => ?_⟩⟩
    have hB := Blk.new' (((((w.alloc (.cells #[.int .u8 1, .int .u8 0, .slice (some ⟨w.heap.size + 1 + 1 + 1 + 1, 0, none⟩) 2 2] 24)).alloc (.cells #[.int .u8 97] 5 (1, 2))).alloc (.cells #[.int .u8 120] 5 (1, 2))).alloc (.cells #[.int .u8 98] 5 (1, 2)))) 49 (enC (some ⟨w.heap.size + 1, 0, none⟩) 1 1 (some ⟨w.heap.size + 1 + 1, 0, none⟩) 1 1 0 r0 r0 ++ enC (some ⟨w.heap.size + 1 + 1 + 1, 0, none⟩) 1 1 none 0 0 100 (5, 9, 2) r0).toArray (w.heap.size + 1 + 1 + 1 + 1) (by simp)
    have hj2 : j = 0 ∨ j = 1 := by omega
    rcases hj2 with rfl | rfl
    · refine ⟨some ⟨w.heap.size + 1, 0, none⟩, 1, 1, some ⟨w.heap.size + 1 + 1, 0, none⟩, 1, 1, ⟨hB.cell 0, hB.cell 1, hB.cell 2, hB.cell 3, hB.cell 4, hB.cell 5, hB.cell 6, hB.cell 7, hB.cell 8⟩, ?_, ?_⟩
      · exact (((m1 _ _ [97] (by simp) rfl).below (hb _ _)).below (hb _ _)).below (hb _ _)
      · exact ((m1 _ _ [120] (by simp) rfl).below (hb _ _)).below (hb _ _)
    · refine ⟨some ⟨w.heap.size + 1 + 1 + 1, 0, none⟩, 1, 1, none, 0, 0, ⟨hB.cell 9, hB.cell 10, hB.cell 11, hB.cell 12, hB.cell 13, hB.cell 14, hB.cell 15, hB.cell 16, hB.cell 17⟩, ?_, Rd.none_ _⟩
      exact (m1 _ _ [98] (by simp) rfl).below (hb _ _)
  · exact ((((below_new1 _ _).alloc (by simp <;> omega) _).alloc (by simp <;> omega) _).alloc (by simp <;> omega) _).alloc (by simp <;> omega) _
theorem twoEs_r : rE 1 0 twoEs = 0 := by decide +kernel
theorem twoEs_n : (entsB 1 twoEs).length = 24 := by decide +kernel
theorem twoEs_in : esIn twoEs := fun j hj => by
  have h2 : j = 0 ∨ j = 1 := by have : twoEs.length = 2 := rfl; omega
  rcases h2 with rfl | rfl <;> exact ⟨⟨by decide, by decide⟩, ⟨by decide, by decide, by decide⟩, ⟨by decide, by decide, by decide⟩⟩
theorem twoEs_s : sizeV 1 0 twoEs = 27 := by rw [sizeV, if_pos twoEs_r, twoEs_n]
theorem twoEs_e : encE 1 0 twoEs = 0 := by rw [encE, if_pos twoEs_r, twoEs_n]; rfl
theorem twoEs_len : (encV 1 0 twoEs).length = 224 := by decide +kernel
theorem twoEs_13 : (encV 1 0 twoEs).take 13 = [1, 0, 2, 1, 97, 0, 1, 120, 1, 98, 1, 0, 100] := by decide +kernel
set_option maxHeartbeats 1600000 in
theorem known_any (w : World) : Calls Try.prog 10 #[] w fun e w' => e = .returned (.bool true) ∧ Below w.heap.size w w' := by
  go_enter Try.func10, Try.ntmps10
  go_wp2_with fail
  refine (two_any w).mono ?_
  rintro e w1 ⟨A, c, rfl, h1, hb1⟩
  go_wp2_with fail
  have HS := size_any 1 0 A 2 c twoEs w1 h1 (by omega) (by omega) twoEs_in (fun _ => by rw [twoEs_n]; omega)
  rw [twoEs_r, twoEs_s] at HS
  refine HS.mono ?_
  clear HS h1
  rintro e w2 ⟨rfl, hb2⟩
  go_wp2_with fail
  refine (two_any w2).mono ?_
  rintro e w3 ⟨A3, c3, rfl, h3, hb3⟩
  go_wp2_with fail
  have HE := encode_any 1 0 A3 2 c3 twoEs w3 h3 (by omega) (by omega) twoEs_in (fun _ => by rw [twoEs_n]; omega)
  rw [twoEs_e] at HE
  refine HE.mono ?_
  clear HE h3
  rintro e w4 ⟨A4, n4, c4, rfl, h4, hb4⟩
  have hrd := h4.rd
  clear h4
  have hn4 : n4 = 224 := by rw [hrd.len, twoEs_len]
  subst hn4
  have hcap := hrd.cap
  obtain ⟨b, o, rfl, hc⟩ := hrd.at_ (by omega)
  have hs := (hrd.take_ 13 (by omega)).str (P := Try.prog) 34 5 9 Try.underlying34 Try.underlying5 Try.underlying9
  rw [twoEs_13] at hs
  have hs2 : (convert 34 9 (.slice (some ⟨b, o, none⟩) 13 c4)).run Try.prog w4 = .ok (.string ⟨#[1, 0, 2, 1, 97, 0, 1, 120, 1, 98, 1, 0, 100]⟩) w4 := hs
  have e16 : w4.cell? ⟨b, o + 16, none⟩ = some (.int .u8 5) := hc 16 (by omega)
  have e24 : w4.cell? ⟨b, o + 24, none⟩ = some (.int .u8 9) := hc 24 (by omega)
  have e26 : w4.cell? ⟨b, o + 26, none⟩ = some (.int .u8 2) := hc 26 (by omega)
  have e27 : w4.cell? ⟨b, o + 27, none⟩ = some (.int .u8 0) := hc 27 (by omega)
  clear hs hrd hc
  go_wp2_with fail
  go_ret
  have t1 := hb1.size
  have t2 := hb2.size
  have t3 := hb3.size
  exact ⟨rfl, hb1.trans ((hb2.mono t1).trans ((hb3.mono (by omega)).trans (hb4.mono (by omega))))⟩
end Go.Proofs.Ytihbpmceggghgaa

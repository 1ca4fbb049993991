/- Contracts: chain's Read of what is right. -/
import Derived.Test.YtbfcpapibenndaaChC
set_option linter.unusedVariables false
namespace Go.Proofs.Ytbfcpapibenndaa
open Go.RowKit

set_option maxHeartbeats 1600000 in
theorem read_ok (A : Option Addr) (c : Nat) (L : List UInt8) (w : World) (h : Rd w A 224 c L) (h1 : 1 ≤ rSize L) (h2 : rSize L ≤ 208) (hz : zeros (L.drop (16 + rSize L)) = true) :
    Calls Try.prog 21 #[.slice A 224 c] w fun e w' => ∃ A' c', e = .returned (.tuple #[.slice A' (rSize L) c', RefV (rPage L) (rCommit L) (rGen L), .int .i64 0]) ∧ Own w' w.heap.size A' (rSize L) c' (rPiece L) ∧ Below w.heap.size w w' := by
  have hcap := h.cap
  have hmax := h.max
  unfold maxLen at hmax
  obtain ⟨b, o, rfl, _⟩ := h.at_ (by omega)
  have hb := below_new1 w (.cells #[.int .u32 0, .int .u64 0, .int .u16 0] 32)
  obtain ⟨W, hW⟩ : ∃ W, W = w.alloc (.cells #[.int .u32 0, .int .u64 0, .int .u16 0] 32) := ⟨_, rfl⟩
  have HR : Hid (Rd W (some ⟨b, o, none⟩) 224 c L) := by rw [hW]; exact h.below hb
  have HW := Lib.hid hW
  obtain ⟨p, hp⟩ : ∃ p, num ((L.drop 0).take 4) = p := ⟨_, rfl⟩
  obtain ⟨q, hq⟩ : ∃ p, num ((L.drop 4).take 8) = p := ⟨_, rfl⟩
  obtain ⟨g, hg⟩ : ∃ p, num ((L.drop 12).take 2) = p := ⟨_, rfl⟩
  obtain ⟨s, hs⟩ : ∃ p, num ((L.drop 14).take 2) = p := ⟨_, rfl⟩
  have G1 := Lib.hid (get_at HR.out 0 4 p hp (by omega) (by omega) (by omega) (some ⟨b, o, none⟩) rfl c rfl)
  have G2 := Lib.hid (get_at HR.out 4 8 q hq (by omega) (by omega) (by omega) (some ⟨b, o + 4, none⟩) rfl (c - 4) rfl)
  have G3 := Lib.hid (get_at HR.out 12 2 g hg (by omega) (by omega) (by omega) (some ⟨b, o + 12, none⟩) rfl (c - 12) rfl)
  have G4 := Lib.hid (get_at HR.out 14 2 s hs (by omega) (by omega) (by omega) (some ⟨b, o + 14, none⟩) rfl (c - 14) rfl)
  have hsr : rSize L = s := hs
  have hpr : rPage L = p := hp
  have hqr : rCommit L = q := hq
  have hgr : rGen L = g := hg
  obtain ⟨PP, HPP⟩ : ∃ PP, Hid (PP = (L.drop 16).take s) := ⟨_, rfl⟩
  have hpp : rPiece L = PP := by rw [HPP.out, rPiece, hsr]
  have hp32 : p < 4294967296 := by rw [← hpr]; exact rPage_lt L
  have hg16 : g < 65536 := by rw [← hgr]; exact rGen_lt L
  rw [hpp, hpr, hqr, hgr]
  rw [hsr] at h1 h2 hz ⊢
  have HZ := Lib.hid hz
  clear h hp hq hg hs hsr hpr hqr hgr hpp hz
  have HBW : Hid (Below w.heap.size w W) := by rw [HW.out]; exact hb
  have HK : Hid (Blk W w.heap.size 32 #[.int .u32 0, .int .u64 0, .int .u16 0]) := by rw [HW.out]; exact Blk.new _ _ _
  clear hb HW
  subst hW
  have hd1 : decide ((s : Int) < 1) = false := decide_eq_false (by omega)
  have hd2 : decide ((s : Int) > 208) = false := decide_eq_false (by omega)
  have hw16 : IntKind.u64.wrap (16 + (s : Int)) = 16 + (s : Int) := IntWalk.u64_in _ (by omega)
  have hwp : IntKind.u32.wrap (p : Int) = (p : Int) := IntWalk.u32_in _ (by omega)
  have hwg : IntKind.u16.wrap (g : Int) = (g : Int) := IntWalk.u16_in _ (by omega)
  have HE : Hid (Own ((w.alloc (.cells #[.int .u32 0, .int .u64 0, .int .u16 0] 32)).alloc (.cells #[] 5)) (w.heap.size + 1) (some ⟨w.heap.size + 1, 0, none⟩) 0 0 []) := by
    have := Own.fresh (w.alloc (.cells #[.int .u32 0, .int .u64 0, .int .u16 0] 32)) (w.heap.size + 1) [] 0 rfl (by omega) (by simp)
    have h' : Own ((w.alloc (.cells #[.int .u32 0, .int .u64 0, .int .u16 0] 32)).alloc (.cells #[] 5)) (w.heap.size + 1) (some ⟨w.heap.size + 1, 0, none⟩) 0 0 [] := by simpa using this
    exact h'
  have HB2 : Hid (Below w.heap.size w ((w.alloc (.cells #[.int .u32 0, .int .u64 0, .int .u16 0] 32)).alloc (.cells #[] 5))) := HBW.out.alloc HBW.out.size _
  have HK2 : Hid (Blk ((w.alloc (.cells #[.int .u32 0, .int .u64 0, .int .u16 0] 32)).alloc (.cells #[] 5)) w.heap.size 32 #[.int .u32 0, .int .u64 0, .int .u16 0]) := HK.out.alloc _
  have HR2 : Hid (Rd ((w.alloc (.cells #[.int .u32 0, .int .u64 0, .int .u16 0] 32)).alloc (.cells #[] 5)) (some ⟨b, o + 16, none⟩) s (c - 16) PP) := by
    have := (HR.out.below (below_new1 _ (.cells #[] 5))).part 16 s (c - 16) (some ⟨b, o + 16, none⟩) (fun _ => rfl) (by omega) (by omega) (by unfold maxLen; omega)
    rw [← HPP.out] at this
    exact this
  by_cases hcs : c = 16 + s
  · have hs208 : 208 = s := by omega
    have hc224 : 224 = c := by omega
    subst hs208
    subst hc224
    clear hcs
    go_enter Try.func21, Try.ntmps21
    go_wp2_with fail
    refine G1.out.mono ?_
    rintro e w' ⟨rfl, rfl⟩
    go_wp2_with fail
    refine G2.out.mono ?_
    rintro e w' ⟨rfl, rfl⟩
    go_wp2_with fail
    refine G3.out.mono ?_
    rintro e w' ⟨rfl, rfl⟩
    go_wp2_with fail
    refine G4.out.mono ?_
    rintro e w' ⟨rfl, rfl⟩
    go_wp2_with fail
    refine (nought_at HR.out (16 + 208) true HZ (by omega) _ _ _ rfl (by omega) (by unfold maxLen; omega) (by intro _; first | rfl | omega)).mono ?_
    rintro e w' ⟨rfl, rfl⟩
    go_wp2_with (at_builtin; refine wpList_app 27 Try.underlying27 rfl (.tmp 56) (.tmp 60) rfl rfl rfl HE.out HR2.out (by simp) (by omega) ?_; intro A5 c5 w5 hown5 hg5 hb5; have HK5 := Lib.hid (HK2.out.keep_grown hg5 (by simp)); have HO5 := Lib.hid hown5; have HB5 := Lib.hid (HB2.out.trans (hb5.mono (Nat.le_succ _))); clear hown5 hg5 hb5; have d0 := HK5.out.cell 0; have d1 := HK5.out.cell 1; have d2 := HK5.out.cell 2; have f0 := HK5.out.frozen 0; have f1 := HK5.out.frozen 1; have f2 := HK5.out.frozen 2)
    have hbk := ((HK5.out.set_ 0 (.int .u32 p)).set_ 1 (.int .u64 q)).set_ 2 (.int .u16 g)
    have e0 := hbk.cell 0
    have e1 := hbk.cell 1
    have e2 := hbk.cell 2
    refine bodyPost_ret (v := .tuple #[.slice A5 208 c5, RefV p q g, .int .i64 0]) ?_ rfl ⟨A5, c5, rfl, ?_, ?_⟩
    · simp [results, Try.results21, go_sem, e0, e1, e2]
    · have ho : Own w5 (w.heap.size + 1) A5 208 c5 PP := by have := HO5.out; simpa using this
      exact (((ho.setLow (Nat.lt_succ_self _) _).setLow (Nat.lt_succ_self _) _).setLow (Nat.lt_succ_self _) _).mono (Nat.le_succ _)
    · exact ((HB5.out.setCell (Nat.le_refl _) _).setCell (Nat.le_refl _) _).setCell (Nat.le_refl _) _
  · skip
    go_enter Try.func21, Try.ntmps21
    go_wp2_with fail
    refine G1.out.mono ?_
    rintro e w' ⟨rfl, rfl⟩
    go_wp2_with fail
    refine G2.out.mono ?_
    rintro e w' ⟨rfl, rfl⟩
    go_wp2_with fail
    refine G3.out.mono ?_
    rintro e w' ⟨rfl, rfl⟩
    go_wp2_with fail
    refine G4.out.mono ?_
    rintro e w' ⟨rfl, rfl⟩
    go_wp2_with fail
    refine (nought_at HR.out (16 + s) true HZ (by omega) _ _ _ rfl (by omega) (by unfold maxLen; omega) (by intro _; first | rfl | omega)).mono ?_
    rintro e w' ⟨rfl, rfl⟩
    go_wp2_with (at_builtin; refine wpList_app 27 Try.underlying27 rfl (.tmp 56) (.tmp 60) rfl (A' := some ⟨b, o + 16, none⟩) (m := s) (c' := c - 16) rfl (by first | rfl | (show Value.slice (some ⟨b, o + 16, none⟩) (16 + s - 16) (c - 16) = Value.slice (some ⟨b, o + 16, none⟩) s (c - 16); rw [Nat.add_sub_cancel_left]) | (trace_state; fail)) HE.out HR2.out (by simp) (by omega) ?_; intro A5 c5 w5 hown5 hg5 hb5; have HK5 := Lib.hid (HK2.out.keep_grown hg5 (by simp)); have HO5 := Lib.hid hown5; have HB5 := Lib.hid (HB2.out.trans (hb5.mono (Nat.le_succ _))); clear hown5 hg5 hb5; have d0 := HK5.out.cell 0; have d1 := HK5.out.cell 1; have d2 := HK5.out.cell 2; have f0 := HK5.out.frozen 0; have f1 := HK5.out.frozen 1; have f2 := HK5.out.frozen 2)
    have hbk := ((HK5.out.set_ 0 (.int .u32 p)).set_ 1 (.int .u64 q)).set_ 2 (.int .u16 g)
    have e0 := hbk.cell 0
    have e1 := hbk.cell 1
    have e2 := hbk.cell 2
    refine bodyPost_ret (v := .tuple #[.slice A5 s c5, RefV p q g, .int .i64 0]) ?_ rfl ⟨A5, c5, rfl, ?_, ?_⟩
    · simp [results, Try.results21, go_sem, e0, e1, e2]
    · have ho : Own w5 (w.heap.size + 1) A5 s c5 PP := by have := HO5.out; simpa using this
      exact (((ho.setLow (Nat.lt_succ_self _) _).setLow (Nat.lt_succ_self _) _).setLow (Nat.lt_succ_self _) _).mono (Nat.le_succ _)
    · exact ((HB5.out.setCell (Nat.le_refl _) _).setCell (Nat.le_refl _) _).setCell (Nat.le_refl _) _
end Go.Proofs.Ytbfcpapibenndaa

/- Contracts: a node's bytes, as the reference writes them. -/
import Derived.Test.YtihbpmceggghgaaWrite
set_option linter.unusedVariables false
set_option linter.unusedSimpArgs false
namespace Go.Proofs.Ytihbpmceggghgaa
open Go.RowKit

set_option maxRecDepth 100000 in
set_option maxHeartbeats 6400000 in
theorem bytes_any (k l : Nat) (A : Option Addr) (n c : Nat) (es : List Ent) (w : World) (h : RdL w A n c es) (hk : k < 256) (hl : l < 256) (hin : esIn es) (hmay : ∀ j, j < es.length → emay k j (es.getD j ent0) = true) (hN : 3 + (entsB k es).length ≤ 140737488355328) :
    Calls Try.prog 34 #[NdV k l A n c] w fun e w' => ∃ A' c', e = .returned (.slice A' (3 + (entsB k es).length) c') ∧ Own w' w.heap.size A' (3 + (entsB k es).length) c' (nodeB k l es) ∧ Below w.heap.size w w' := by
  have hcap := h.cap
  have hmax := h.max
  unfold maxLen at hmax
  have HLn := Lib.hid h.len
  obtain ⟨W, hW⟩ : ∃ W, W = w.alloc (.cells #[.int .u8 (k : Int), .int .u8 (l : Int), .slice A n c] 24) := ⟨_, rfl⟩
  have HWB : Hid (Below w.heap.size w W) := by rw [hW]; exact below_new1 _ _
  have KN : Hid (Blk W w.heap.size 24 #[.int .u8 (k : Int), .int .u8 (l : Int), .slice A n c]) := by rw [hW]; exact Blk.new _ _ _
  have HR := Lib.hid (h.below HWB.out)
  have HW := Lib.hid hW
  have HIN := Lib.hid hin
  have HMAY := Lib.hid hmay
  have HN := Lib.hid hN
  have hWs : w.heap.size < W.heap.size := KN.out.lt
  clear h hW hin hmay hN
  go_enter Try.func34, Try.ntmps34
  go_wp2_with fail
  obtain ⟨hd, Hhd⟩ : ∃ hd, Hid (hd = [UInt8.ofNat k, UInt8.ofNat l, UInt8.ofNat n]) := ⟨_, rfl⟩
  have hof : Hid (Own (W.alloc (.cells #[.int .u8 (k : Int), .int .u8 (l : Int), .int .u8 ((n : Int) % 256)] 5)) W.heap.size (some ⟨w.heap.size + 1, 0, none⟩) 3 3 hd) := by
    have := Own.fresh W W.heap.size hd 3 (by rw [Hhd.out]; rfl) (by omega) (Nat.le_refl _)
    rw [Hhd.out, head_cells k l n hk hl] at this
    rw [Hhd.out]
    have e : W.heap.size = w.heap.size + 1 := by rw [HW.out]; simp
    rw [e] at this
    exact (by show Own _ _ _ _ _ _; rw [e]; exact this)
  rw [← HW.out]
  go_loopw [3, 4] (fun v z wr => ∃ (i t c2 : Nat) (A2 : Option Addr), i ≤ n ∧ z = .int .i64 (i : Int) ∧ v = .slice A2 t c2 ∧ t = 3 + (entsB k (es.take i)).length ∧ Own wr W.heap.size A2 t c2 (hd ++ entsB k (es.take i)) ∧ Below W.heap.size W wr)
    (fun _ z _ => n - (intOf z).toNat)
  case atStart => exact ⟨0, 3, 3, _, Nat.zero_le _, rfl, rfl, rfl, by simpa [entsB] using hof.out, below_new1 _ _⟩
  case round =>
    obtain ⟨i, t, c3, A3, hi, rfl, rfl, ht, hown, hbel⟩ := hrel
    have HT := Lib.hid ht
    have HO := Lib.hid hown
    have HBE := Lib.hid hbel
    have hbs := hbel.size
    have KNr := Lib.hid (KN.out.below hbel KN.out.lt)
    clear ht hown hbel hof
    by_cases hlt : i < n
    · obtain ⟨b, o, A1, n1, c1, A2, n2, c2, m, r, s, K, V, rfl, hat, hrk, hrv, hent, hr, hs, hn1, hn2, hm⟩ := HR.out.full i hlt k HIN.out HMAY.out
      have hat := hat.below HBE.out
      have a0 := hat.c0
      have a1 := hat.c1
      have a2 := hat.c2
      have a3 := hat.c3
      have a4 := hat.c4
      have a5 := hat.c5
      have a6 := hat.c6
      have a7 := hat.c7
      have a8 := hat.c8
      have d2 : wr.cell? ⟨w.heap.size, 2, none⟩ = some (.slice (some ⟨b, o, none⟩) n c) := KNr.out.cell 2
      have i1 : (0 : Int) ≤ (i : Int) := by omega
      have i2 : (i : Int) < (n : Int) := by omega
      have hto := entsB_mono k es i (by rw [← HLn.out]; exact hlt)
      have hst := entsB_step k es i (by rw [← HLn.out]; exact hlt)
      rw [hent] at hto hst
      have HST := Lib.hid hst
      have HRK := Lib.hid hrk
      have HRV := Lib.hid hrv
      have hNN := HN.out
      have htt := HT.out
      obtain ⟨EB, hEB⟩ : ∃ EB, EB = entB k ⟨K, V, (m : Int), r, s⟩ := ⟨_, rfl⟩
      rw [← hEB] at hto hst HST
      have hsum : t + EB.length ≤ 140737488355328 := by omega
      have HEB := Lib.hid hEB
      clear hat hrk hrv hent hto hst hNN htt hEB
      go_upto_region 6 with fail
      obtain ⟨Y, hY⟩ : ∃ Y, Y = wr.alloc (.cells #[.slice A1 n1 c1, .slice A2 n2 c2, .int .i64 (m : Int), .int .u32 (r.1 : Int), .int .u64 (r.2.1 : Int), .int .u16 (r.2.2 : Int), .int .u32 (s.1 : Int), .int .u64 (s.2.1 : Int), .int .u16 (s.2.2 : Int)] 49) := ⟨_, rfl⟩
      obtain ⟨X, hX⟩ : ∃ X, wr.heap.size = X := ⟨_, rfl⟩
      have hbY : Below wr.heap.size wr Y := by rw [hY]; exact below_new1 _ _
      have KX : Hid (Blk Y X 49 (enA A1 n1 c1 A2 n2 c2 (m : Int) r s)) := by rw [hY]; exact Blk.new' _ _ _ _ hX
      rw [← hY, hX]
      have KNy := Lib.hid (KNr.out.below hbY KNr.out.lt)
      have HOy := Lib.hid (HO.out.below hbY)
      have HBy : Hid (Below W.heap.size W Y) := HBE.out.trans (hbY.mono hbs)
      have hys := HBy.out.size
      have hXge : W.heap.size ≤ X := by omega
      have hXlt := KX.out.lt
      clear d2 hbY a0 a1 a2 a3 a4 a5 a6 a7 a8 hY HO HBE hX hbs KNr
      have x0 : Y.cell? ⟨X, 0, none⟩ = some (.slice A1 n1 c1) := KX.out.cell 0
      have hE1 : 1 + n1 ≤ EB.length := by
        rw [HEB.out, entB, HRK.out.len]; simp; omega
      have R1 : Hid (Rd (Y.alloc (.cells #[.int .u8 (n1 : Int)] 5)) (some ⟨Y.heap.size, 0, none⟩) 1 1 [UInt8.ofNat n1]) := by
        have := Rd.fresh Y [UInt8.ofNat n1] 1 rfl (by omega)
        rw [show [UInt8.ofNat n1].map B8 = [Value.int .u8 (n1 : Int)] by rw [List.map_cons, List.map_nil, b8_lt _ (by omega)]] at this
        exact this
      go_upto_region 7 with (at_builtin; refine wpList_app 34 Try.underlying34 rfl (.tmp 28) (.tmp 33) rfl rfl rfl (HOy.out.alloc _) R1.out (by simp; omega) (by omega) ?_; intro A4 c4 Y3 hown3 hg3 hb3)
      have K3 := Lib.hid ((HOy.out.alloc _).keep_blk (KX.out.alloc _) (by decide) hg3)
      have N3 := Lib.hid ((HOy.out.alloc _).keep_blk (KNy.out.alloc _) (by decide) hg3)
      have O3 := Lib.hid hown3
      have B3 : Hid (Below W.heap.size W Y3) := (HBy.out.alloc hys _).trans hb3
      have y3s := B3.out.size
      have RK3 := Lib.hid (HRK.out.below B3.out)
      clear hown3 hg3 hb3 x0 HOy KX KNy HBy R1
      have x0 : Y3.cell? ⟨X, 0, none⟩ = some (.slice A1 n1 c1) := K3.out.cell 0
      go_upto_region 8 with (at_builtin; refine wpList_app 34 Try.underlying34 rfl (.tmp 35) (.tmp 37) rfl rfl rfl O3.out RK3.out y3s (by omega) ?_; intro A5 c5 Y4 hown4 hg4 hb4)
      have K4 := Lib.hid (O3.out.keep_blk K3.out (by decide) hg4)
      have N4 := Lib.hid (O3.out.keep_blk N3.out (by decide) hg4)
      have O4 := Lib.hid hown4
      have B4 : Hid (Below W.heap.size W Y4) := B3.out.trans hb4
      have y4s := B4.out.size
      clear hown4 hg4 hb4 O3 K3 N3 B3 RK3 x0
      have d0 : Y4.cell? ⟨w.heap.size, 0, none⟩ = some (.int .u8 (k : Int)) := N4.out.cell 0
      have x2 : Y4.cell? ⟨X, 2, none⟩ = some (.int .i64 (m : Int)) := K4.out.cell 2
      have x3 : Y4.cell? ⟨X, 3, none⟩ = some (.int .u32 (r.1 : Int)) := K4.out.cell 3
      have x4 : Y4.cell? ⟨X, 4, none⟩ = some (.int .u64 (r.2.1 : Int)) := K4.out.cell 4
      have x5 : Y4.cell? ⟨X, 5, none⟩ = some (.int .u16 (r.2.2 : Int)) := K4.out.cell 5
      have x6 : Y4.cell? ⟨X, 6, none⟩ = some (.int .u32 (s.1 : Int)) := K4.out.cell 6
      have x7 : Y4.cell? ⟨X, 7, none⟩ = some (.int .u64 (s.2.1 : Int)) := K4.out.cell 7
      have x8 : Y4.cell? ⟨X, 8, none⟩ = some (.int .u16 (s.2.2 : Int)) := K4.out.cell 8
      obtain ⟨base, Hbase⟩ : ∃ bb, Hid (hd ++ entsB k (es.take i) ++ [UInt8.ofNat n1] ++ K = bb) := ⟨_, rfl⟩
      rw [Hbase.out] at O4
      by_cases hk2 : k = 2
      · have hkb : ((k : Int) == 2) = true := by rw [beq_iff_eq]; omega
        have hEB2 : EB.length = 1 + n1 + 14 := by
          rw [HEB.out, entB, if_pos hk2, HRK.out.len]; simp [rfB_length]; omega
        have HEB3 : Hid (hd ++ entsB k (es.take (i + 1)) = base ++ rfB s) := by
          show _ = _
          rw [HST.out, HEB.out, entB, if_pos hk2, ← Hbase.out, HRK.out.len]; simp
        clear hk2
        go_wp2_with fail
        refine (refrf_any s hs Y4).mono ?_
        rintro e Y5 ⟨A6, c6, rfl, hown5, hb5⟩
        have O5 := Lib.hid hown5
        have O45 := Lib.hid (O4.out.below hb5)
        have B5 : Hid (Below W.heap.size W Y5) := B4.out.trans (hb5.mono y4s)
        have y5s := B5.out.size
        clear hown5 hb5
        go_wp2_with (at_builtin; refine wpList_app 34 Try.underlying34 rfl (.tmp 42) (.tmp 45) rfl rfl rfl O45.out O5.out.rd y5s (by omega) ?_; intro A7 c7 Y6 hown6 hg6 hb6)
        go_roundw
        case rel =>
          refine ⟨i + 1, t + 1 + n1 + 14, c7, A7, by omega, by go_num, rfl, ?_, ?_, B5.out.trans hb6⟩
          · rw [HST.out, List.length_append, HT.out] at *; omega
          · rw [HEB3.out]; exact hown6
        case measure => first | (simp [intOf]; done) | (simp [intOf]; omega)
      · have hkb : ((k : Int) == 2) = false := by rw [beq_eq_false_iff_ne]; omega
        by_cases hm0 : m = 0
        · have hdm : ((m : Int) == 0) = true := by rw [beq_iff_eq]; omega
          have x1 : Y4.cell? ⟨X, 1, none⟩ = some (.slice A2 n2 c2) := K4.out.cell 1
          have hEB2 : EB.length = 1 + n1 + 2 + n2 := by
            rw [HEB.out, entB, if_neg hk2, if_pos (by simp [hm0]), HRK.out.len, HRV.out.len]; simp; omega
          have HEB3 : Hid (hd ++ entsB k (es.take (i + 1)) = base ++ [0, UInt8.ofNat n2] ++ V) := by
            show _ = _
            rw [HST.out, HEB.out, entB, if_neg hk2, if_pos (by simp [hm0]), ← Hbase.out, HRK.out.len, HRV.out.len]; simp
          clear hk2 hm0
          have R4 : Hid (Rd (Y4.alloc (.cells #[.int .u8 0, .int .u8 (n2 : Int)] 5)) (some ⟨Y4.heap.size, 0, none⟩) 2 2 [0, UInt8.ofNat n2]) := by
            have := Rd.fresh Y4 [0, UInt8.ofNat n2] 2 rfl (by omega)
            rw [show [0, UInt8.ofNat n2].map B8 = [Value.int .u8 0, Value.int .u8 (n2 : Int)] by rw [List.map_cons, List.map_cons, List.map_nil, b8_lt _ (by omega)]; rfl] at this
            exact this
          go_upto_region 12 with (at_builtin; refine wpList_app 34 Try.underlying34 rfl (.tmp 50) (.tmp 55) rfl rfl rfl (O4.out.alloc _) R4.out (by simp; omega) (by omega) ?_; intro A6 c6 Y7 hown7 hg7 hb7)
          have K7 := Lib.hid ((O4.out.alloc _).keep_blk (K4.out.alloc _) (by decide) hg7)
          have O7 := Lib.hid hown7
          have B7 : Hid (Below W.heap.size W Y7) := (B4.out.alloc y4s _).trans hb7
          have y7s := B7.out.size
          have RV7 := Lib.hid (HRV.out.below B7.out)
          clear hown7 hg7 hb7 x1 d0 x2 x3 x4 x5 x6 x7 x8 O4 K4 N4 B4 R4
          have x1 : Y7.cell? ⟨X, 1, none⟩ = some (.slice A2 n2 c2) := K7.out.cell 1
          go_wp2_with (at_builtin; refine wpList_app 34 Try.underlying34 rfl (.tmp 57) (.tmp 59) rfl rfl rfl O7.out RV7.out y7s (by omega) ?_; intro A8 c8 Y8 hown8 hg8 hb8)
          go_roundw
          case rel =>
            refine ⟨i + 1, t + 1 + n1 + 2 + n2, c8, A8, by omega, by go_num, rfl, ?_, ?_, B7.out.trans hb8⟩
            · rw [HST.out, List.length_append, HT.out] at *; omega
            · rw [HEB3.out]; exact hown8
          case measure => first | (simp [intOf]; done) | (simp [intOf]; omega)
        · have hdm : ((m : Int) == 0) = false := by rw [beq_eq_false_iff_ne]; omega
          have hEB2 : EB.length = 1 + n1 + 3 + 14 := by
            rw [HEB.out, entB, if_neg hk2, if_neg (by dsimp only; omega), HRK.out.len]; simp [rfB_length]; omega
          have HEB3 : Hid (hd ++ entsB k (es.take (i + 1)) = base ++ [1, UInt8.ofNat (m / 256), UInt8.ofNat m] ++ rfB r) := by
            show _ = _
            rw [HST.out, HEB.out, entB, if_neg hk2, if_neg (by dsimp only; omega), ← Hbase.out, HRK.out.len]; simp
          clear hk2 hm0
          have R4 : Hid (Rd (Y4.alloc (.cells #[.int .u8 1, .int .u8 ((m : Int) / 256), .int .u8 ((m : Int) % 256)] 5)) (some ⟨Y4.heap.size, 0, none⟩) 3 3 [1, UInt8.ofNat (m / 256), UInt8.ofNat m]) := by
            have := Rd.fresh Y4 [1, UInt8.ofNat (m / 256), UInt8.ofNat m] 3 rfl (by omega)
            rw [show [1, UInt8.ofNat (m / 256), UInt8.ofNat m].map B8 = [Value.int .u8 1, Value.int .u8 ((m : Int) / 256), Value.int .u8 ((m : Int) % 256)] by rw [List.map_cons, List.map_cons, List.map_cons, List.map_nil, b8_mod m, b8_lt (m / 256) (by omega)]; rfl] at this
            exact this
          go_upto_region 14 with (at_builtin; refine wpList_app 34 Try.underlying34 rfl (.tmp 61) (.tmp 70) rfl rfl rfl (O4.out.alloc _) R4.out (by simp; omega) (by omega) ?_; intro A6 c6 Y5 hown5 hg5 hb5)
          have K5 := Lib.hid ((O4.out.alloc _).keep_blk (K4.out.alloc _) (by decide) hg5)
          have O5 := Lib.hid hown5
          have B5 : Hid (Below W.heap.size W Y5) := (B4.out.alloc y4s _).trans hb5
          have y5s := B5.out.size
          clear hown5 hg5 hb5 d0 x2 x3 x4 x5 x6 x7 x8 R4 O4 K4 N4 B4
          have x3 : Y5.cell? ⟨X, 3, none⟩ = some (.int .u32 (r.1 : Int)) := K5.out.cell 3
          have x4 : Y5.cell? ⟨X, 4, none⟩ = some (.int .u64 (r.2.1 : Int)) := K5.out.cell 4
          have x5 : Y5.cell? ⟨X, 5, none⟩ = some (.int .u16 (r.2.2 : Int)) := K5.out.cell 5
          go_wp2_with fail
          refine (refrf_any r hr Y5).mono ?_
          rintro e Y6 ⟨A7, c7, rfl, hown6, hb6⟩
          have O6 := Lib.hid hown6
          have O56 := Lib.hid (O5.out.below hb6)
          have B6 : Hid (Below W.heap.size W Y6) := B5.out.trans (hb6.mono y5s)
          have y6s := B6.out.size
          clear hown6 hb6 x3 x4 x5
          go_wp2_with (at_builtin; refine wpList_app 34 Try.underlying34 rfl (.tmp 72) (.tmp 75) rfl rfl rfl O56.out O6.out.rd y6s (by omega) ?_; intro A8 c8 Y7 hown7 hg7 hb7)
          go_roundw
          case rel =>
            refine ⟨i + 1, t + 1 + n1 + 3 + 14, c8, A8, by omega, by go_num, rfl, ?_, ?_, B6.out.trans hb7⟩
            · rw [HST.out, List.length_append, HT.out] at *; omega
            · rw [HEB3.out]; exact hown7
          case measure => first | (simp [intOf]; done) | (simp [intOf]; omega)
    · obtain rfl : i = n := by omega
      have d2 : wr.cell? ⟨w.heap.size, 2, none⟩ = some (.slice A i c) := KNr.out.cell 2
      have ho := HO.out
      have ht := HT.out
      rw [HLn.out, List.take_length] at ho ht
      have HO2 := Lib.hid ho
      have HT2 := Lib.hid ht
      clear ho ht hi hlt
      go_wp2_with fail
      go_ret
      refine ⟨A3, c3, by rw [← HT2.out]; rfl, ?_, HWB.out.trans (HBE.out.mono (Nat.le_of_lt hWs))⟩
      rw [← HT2.out, nodeB, ← HLn.out, ← Hhd.out]
      exact HO2.out.mono (Nat.le_of_lt hWs)
end Go.Proofs.Ytihbpmceggghgaa

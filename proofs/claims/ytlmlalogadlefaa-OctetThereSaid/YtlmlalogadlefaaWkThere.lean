/- The walk of OctetThere: digits and bytes lead back to each other. -/
import Derived.Test.YtlmlalogadlefaaWkBack
import Derived.Test.YtlmlalogadlefaaOctH
set_option linter.unusedVariables false
namespace Go.Proofs.Ytlmlalogadlefaa
open Go.RowKit

theorem str_size (s : ByteArray) : s.data.toList.length = s.size := by simp
theorem hexstr_size (l : List UInt8) : (⟨(hex l).toArray⟩ : ByteArray).size = 2 * l.length := by
  show (hex l).toArray.size = _
  rw [List.size_toArray, hex_length]

set_option maxHeartbeats 3200000 in
theorem octetThere_walk (A : Option Addr) (n c : Nat) (l : List UInt8) (s : ByteArray) (w : World) (h : Rd w A n c l) (hr : c ≤ 140737488351232) (hm : s.data.toList.length ≤ 140737488351232) :
    Calls Try.prog 8 #[.slice A n c, .string s] w fun e w' => e = .returned (.bool true) ∧ Below w.heap.size w w' := by
  have hcm := h.cap
  have HLl := Lib.hid h.len
  have H := Lib.hid h
  clear h
  have hs : s.size ≤ 140737488351232 := by rw [← str_size]; exact hm
  clear hm
  by_cases hn : (4096 : Int) < n
  · go_enter Try.func8, Try.ntmps8
    go_wp2_with (go_at_call 14; refine (known_any _).mono ?_; rintro e w1 ⟨rfl, hb1⟩)
    go_ret
    exact ⟨rfl, hb1⟩
  · by_cases hn2 : (8192 : Int) < s.size
    · go_enter Try.func8, Try.ntmps8
      go_wp2_with (go_at_call 14; refine (known_any _).mono ?_; rintro e w1 ⟨rfl, hb1⟩)
      go_ret
      exact ⟨rfl, hb1⟩
    · obtain ⟨h, Hh⟩ : ∃ h : ByteArray, Hid (h = ⟨(hex l).toArray⟩) := ⟨_, rfl⟩
      have Hsz : Hid (h.size = 2 * n) := by show h.size = 2 * n; rw [Hh.out, HLl.out]; exact hexstr_size l
      have Hdl : Hid (h.data.toList = hex l) := by show h.data.toList = hex l; rw [Hh.out]
      have hsz1 : h.size ≤ 2 * n := by rw [Hsz.out]; exact Nat.le_refl _
      have hsz2 : 2 * n ≤ h.size := by rw [Hsz.out]; exact Nat.le_refl _
      have Hdg : Hid (digs h.data.toList h.size) := by show digs h.data.toList h.size; rw [Hdl.out, Hsz.out, HLl.out]; exact hex_digs l
      have Hun : Hid (unhexN h.data.toList n = l) := by show unhexN h.data.toList n = l; rw [Hdl.out, HLl.out]; exact unhex_hex l
      have hlen : ((h.size : Int) != 2 * (n : Int)) = false := by rw [bne_eq_false_iff_eq]; omega
      rcases digs_or s.data.toList s.size with hd | ⟨i, hi, hd, hbad⟩
      · rcases Nat.mod_two_eq_zero_or_one s.size with ho | ho
        · obtain ⟨m, Hm⟩ : ∃ m, Hid (s.size = 2 * m) := ⟨s.size / 2, by show s.size = _; omega⟩
          have HD := Lib.hid hd
          have hm1 : 2 * m ≤ s.size := by rw [Hm.out]; exact Nat.le_refl _
          clear hd ho
          have Hback : Hid ((⟨(hex (unhexN s.data.toList m)).toArray⟩ : ByteArray) = s) := by
            show _ = _
            rw [hex_unhex s.data.toList m (by rw [str_size]; exact Hm.out) (by rw [str_size]; exact HD.out)]
          go_enter Try.func8, Try.ntmps8
          go_wp2_with fail
          refine (hex_any A n c l w H.out (by omega)).mono ?_
          rintro e w1 ⟨rfl, hb1⟩
          rw [← Hh.out]
          have H1 := Lib.hid (H.out.below hb1)
          go_wp2_with fail
          refine (unhex_ok h n w1 (by omega) Hdg.out Hsz.out).mono ?_
          rintro e w2 ⟨A2, c2, rfl, hown, hb2⟩
          have R2 := Rd.of_own hown
          rw [Hun.out] at R2
          have R2' := Lib.hid R2
          have H2 := Lib.hid (H1.out.below hb2)
          clear R2 hown
          go_wp2_with fail
          refine (lawsame_any A n c l A2 n c2 l w2 H2.out R2'.out).mono ?_
          rintro e w3 ⟨rfl, rfl⟩
          go_wp2_with fail
          refine (unhex_ok s m w2 hs HD.out Hm.out).mono ?_
          rintro e w3 ⟨A3, c3, rfl, hown, hb3⟩
          have R3 := Lib.hid (Rd.of_own hown)
          clear hown
          go_wp2_with fail
          refine (hex_any A3 m c3 _ w3 R3.out (by omega)).mono ?_
          rintro e w4 ⟨rfl, hb4⟩
          rw [Hback.out]
          go_wp2_with (go_at_call 14; refine (known_any _).mono ?_; rintro e w5 ⟨rfl, hb5⟩)
          go_ret
          have s1 := hb1.size
          have s2 := hb2.size
          have s3 := hb3.size
          have s4 := hb4.size
          exact ⟨rfl, (((hb1.trans (hb2.mono s1)).trans (hb3.mono (by omega))).trans (hb4.mono (by omega))).trans (hb5.mono (by omega))⟩
        · have HD := Lib.hid hd
          have HO := Lib.hid ho
          clear hd ho
          go_enter Try.func8, Try.ntmps8
          go_wp2_with fail
          refine (hex_any A n c l w H.out (by omega)).mono ?_
          rintro e w1 ⟨rfl, hb1⟩
          rw [← Hh.out]
          have H1 := Lib.hid (H.out.below hb1)
          go_wp2_with fail
          refine (unhex_ok h n w1 (by omega) Hdg.out Hsz.out).mono ?_
          rintro e w2 ⟨A2, c2, rfl, hown, hb2⟩
          have R2 := Rd.of_own hown
          rw [Hun.out] at R2
          have R2' := Lib.hid R2
          have H2 := Lib.hid (H1.out.below hb2)
          clear R2 hown
          go_wp2_with fail
          refine (lawsame_any A n c l A2 n c2 l w2 H2.out R2'.out).mono ?_
          rintro e w3 ⟨rfl, rfl⟩
          go_wp2_with fail
          refine (unhex_odd s w2 hs HD.out HO.out).mono ?_
          rintro e w3 ⟨rfl, rfl⟩
          go_wp2_with (go_at_call 14; refine (known_any _).mono ?_; rintro e w5 ⟨rfl, hb5⟩)
          go_ret
          have s1 := hb1.size
          have s2 := hb2.size
          exact ⟨rfl, (hb1.trans (hb2.mono s1)).trans (hb5.mono (by omega))⟩
      · have HD := Lib.hid hd
        have HB := Lib.hid hbad
        clear hd hbad
        go_enter Try.func8, Try.ntmps8
        go_wp2_with fail
        refine (hex_any A n c l w H.out (by omega)).mono ?_
        rintro e w1 ⟨rfl, hb1⟩
        rw [← Hh.out]
        have H1 := Lib.hid (H.out.below hb1)
        go_wp2_with fail
        refine (unhex_ok h n w1 (by omega) Hdg.out Hsz.out).mono ?_
        rintro e w2 ⟨A2, c2, rfl, hown, hb2⟩
        have R2 := Rd.of_own hown
        rw [Hun.out] at R2
        have R2' := Lib.hid R2
        have H2 := Lib.hid (H1.out.below hb2)
        clear R2 hown
        go_wp2_with fail
        refine (lawsame_any A n c l A2 n c2 l w2 H2.out R2'.out).mono ?_
        rintro e w3 ⟨rfl, rfl⟩
        go_wp2_with fail
        refine (unhex_bad s i w2 hs hi HD.out HB.out).mono ?_
        rintro e w3 ⟨rfl, rfl⟩
        go_wp2_with (go_at_call 14; refine (known_any _).mono ?_; rintro e w5 ⟨rfl, hb5⟩)
        go_ret
        have s1 := hb1.size
        have s2 := hb2.size
        exact ⟨rfl, (hb1.trans (hb2.mono s1)).trans (hb5.mono (by omega))⟩
end Go.Proofs.Ytlmlalogadlefaa

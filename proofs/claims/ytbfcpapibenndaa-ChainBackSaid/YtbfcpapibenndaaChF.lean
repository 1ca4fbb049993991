/- Contracts: Read of whatever is handed in, both; walks of ChainReads and ChainOnly. -/
import Derived.Test.YtbfcpapibenndaaChE
import Derived.Test.YtbfcpapibenndaaWkChA
set_option linter.unusedVariables false
namespace Go.Proofs.Ytbfcpapibenndaa
open Go.RowKit

/-- A Ref that is in range, as a value. -/
def RefIn (v : Value) (p q g : Nat) : Prop := v = RefV p q g ∧ p < 4294967296 ∧ q < 18446744073709551616 ∧ g < 65536
theorem rR_in (n : Nat) (L : List UInt8) : ∃ p q g, RefIn (rR n L) p q g := by
  unfold rR
  split
  · exact ⟨_, _, _, rfl, rPage_lt L, rCommit_lt L, rGen_lt L⟩
  · exact ⟨0, 0, 0, rfl, by omega, by omega, by omega⟩
theorem readx (A : Option Addr) (n c : Nat) (L : List UInt8) (w : World) (h : Rd w A n c L) (hn : n ≤ 4096) :
    Calls Try.prog 21 #[.slice A n c] w fun e w' => ∃ A' n' c', e = .returned (.tuple #[.slice A' n' c', rR n L, .int .i64 (rE n L)]) ∧ Own w' w.heap.size A' n' c' (rP n L) ∧ Below w.heap.size w w' := by
  by_cases h224 : n = 224
  · subst h224
    cases hk : rOk L with
    | true =>
      obtain ⟨h1, h2, h3⟩ := (rOk_iff L).1 hk
      obtain ⟨e1, e2, e3⟩ := r_ok L hk
      exact (read_ok A c L w h h1 h2 h3).mono fun e w' ⟨A', c', he, ho, hb⟩ => ⟨A', rSize L, c', by rw [he, e1, e2], by rw [e3]; exact ho, hb⟩
    | false =>
      obtain ⟨e1, e2, e3⟩ := r_bad L hk
      have hbad : rSize L < 1 ∨ 208 < rSize L ∨ zeros (L.drop (16 + rSize L)) = false := by
        simp only [rOk, Bool.and_eq_false_iff, decide_eq_false_iff_not] at hk
        rcases hk with (h | h) | h
        · exact .inl (by omega)
        · exact .inr (.inl (by omega))
        · exact .inr (.inr h)
      exact (read_bad A c L w h hbad).mono fun e w' ⟨he, hb⟩ => ⟨none, 0, 0, by rw [he, e1, e2], by rw [e3]; exact Own.nil _ _, hb⟩
  · obtain ⟨e1, e2, e3⟩ := r_len n L h224
    exact (read_len A n c w h224 (by omega)).mono fun e w' ⟨he, hb⟩ => ⟨none, 0, 0, by rw [he, e1, e2], by rw [e3]; exact Own.nil _ _, hb⟩
theorem refreadx (A : Option Addr) (n c : Nat) (L : List UInt8) (w : World) (h : Rd w A n c L) (hn : n ≤ 4096) (hc : c ≤ 140737488355328) :
    Calls Try.prog 22 #[.slice A n c] w fun e w' => ∃ A' n' c', e = .returned (.tuple #[.slice A' n' c', rR n L, .int .i64 (rE n L)]) ∧ Rd w' A' n' c' (rP n L) ∧ Below w.heap.size w w' := by
  by_cases h224 : n = 224
  · subst h224
    exact refread_all A c L w h hc
  · obtain ⟨e1, e2, e3⟩ := r_len n L h224
    exact (refread_len A n c w h224 (by omega)).mono fun e w' ⟨he, hb⟩ => ⟨none, 0, 0, by rw [he, e1, e2], by rw [e3]; exact Rd.none_ _, hb⟩
/-- What two calls answer of a payload. -/
theorem pcs_same (A : Option Addr) (n c : Nat) (l : List UInt8) (A' : Option Addr) (n' c' : Nat) (w : World) (h : Rd w A n c l) (h' : Rd w A' n' c' l) :
    Calls Try.prog 16 #[.slice A n c, .slice A' n' c'] w fun e w' => e = .returned (.bool true) ∧ w = w' := same_refl A n c l A' n' c' w h h'

set_option maxHeartbeats 1600000 in
theorem chainReads_walk (A : Option Addr) (n c : Nat) (L : List UInt8) (w : World) (h : Rd w A n c L) (hc : c ≤ 140737488351232) :
    Calls Try.prog 7 #[.slice A n c] w fun e w' => e = .returned (.bool true) ∧ Below w.heap.size w w' := by
  have hcap := h.cap
  by_cases hn : 4096 < n
  · have hd : decide ((n : Int) > 4096) = true := decide_eq_true (by omega)
    clear h
    go_enter Try.func7, Try.ntmps7
    go_wp2_with (go_at_call 12; refine (known_any _).mono ?_; rintro e w3 ⟨rfl, hb3⟩)
    go_ret
    exact ⟨rfl, hb3⟩
  · have hd : decide ((n : Int) > 4096) = false := decide_eq_false (by omega)
    have HR := Lib.hid h
    clear h
    obtain ⟨RV, HRV⟩ : ∃ v, Hid (rR n L = v) := ⟨_, rfl⟩
    obtain ⟨EV, HEV⟩ : ∃ v, Hid (rE n L = v) := ⟨_, rfl⟩
    obtain ⟨PV, HPV⟩ : ∃ v, Hid (rP n L = v) := ⟨_, rfl⟩
    obtain ⟨p, q, g, hpqg⟩ := rR_in n L
    rw [HRV.out] at hpqg
    obtain ⟨rfl, hp, hq, hg⟩ := hpqg
    go_enter Try.func7, Try.ntmps7
    go_wp2_with fail
    refine (copy_any A n c L _ HR.out (by omega)).mono ?_
    rintro e w1 ⟨A1, c1, rfl, hown1, hb1⟩
    have HB1 := Lib.hid hb1
    have HI1 := Lib.hid (Own.rd hown1)
    clear hown1 hb1
    go_wp2_with fail
    refine (readx A1 n c1 L _ HI1.out (by omega)).mono ?_
    rw [HRV.out, HEV.out, HPV.out]
    rintro e w2 ⟨A2, n2, c2, rfl, hown2, hb2⟩
    have HB2 := Lib.hid (HB1.out.trans (hb2.mono HB1.out.size))
    have HI2 := Lib.hid (HI1.out.below hb2)
    have HP2 := Lib.hid hown2
    have HL2 : Hid (Below w1.heap.size w1 w2) := hb2
    clear hown2 hb2
    go_wp2_with fail
    have HB3 : Hid (Below w.heap.size w (w2.alloc (.cells #[.int .u32 p, .int .u64 q, .int .u16 g] 32))) := HB2.out.alloc HB2.out.size _
    have HK3 : Hid (Blk (w2.alloc (.cells #[.int .u32 p, .int .u64 q, .int .u16 g] 32)) w2.heap.size 32 #[.int .u32 p, .int .u64 q, .int .u16 g]) := Blk.new _ _ _
    have HR3 := Lib.hid (HR.out.below HB3.out)
    refine (refreadx A n c L _ HR3.out (by omega) (by omega)).mono ?_
    rw [HRV.out, HEV.out, HPV.out]
    rintro e w4 ⟨A4, n4, c4, rfl, hrd4, hb4⟩
    have HB4 := Lib.hid (HB3.out.trans (hb4.mono HB3.out.size))
    have HL4 : Hid (Below w1.heap.size w1 w4) := (HL2.out.alloc HL2.out.size _).trans (hb4.mono (by have := HL2.out.size; simp; omega))
    have HP4 : Hid (Own w4 w1.heap.size A2 n2 c2 PV) := (HP2.out.alloc _).below hb4
    have HQ4 := Lib.hid hrd4
    have HK4 := Lib.hid (HK3.out.below hb4 HK3.out.lt)
    clear hrd4 hb4
    obtain ⟨W5, hW5⟩ : ∃ W5, W5 = w4.alloc (.cells #[.int .u32 p, .int .u64 q, .int .u16 g] 32) := ⟨_, rfl⟩
    have HN5 : Hid (Blk W5 w4.heap.size 32 #[.int .u32 p, .int .u64 q, .int .u16 g]) := by rw [hW5]; exact Blk.new _ _ _
    have HK5 : Hid (Blk W5 w2.heap.size 32 #[.int .u32 p, .int .u64 q, .int .u16 g]) := by rw [hW5]; exact HK4.out.alloc _
    have HB5 : Hid (Below w.heap.size w W5) := by rw [hW5]; exact HB4.out.alloc HB4.out.size _
    have HL5 : Hid (Below w1.heap.size w1 W5) := by rw [hW5]; exact HL4.out.alloc HL4.out.size _
    have HP5 : Hid (Own W5 w1.heap.size A2 n2 c2 PV) := by rw [hW5]; exact HP4.out.alloc _
    have HQ5 : Hid (Rd W5 A4 n4 c4 PV) := by rw [hW5]; exact HQ4.out.below (below_new1 _ _)
    go_wp2_with fail
    rw [← hW5]
    have a0 := HN5.out.cell 0
    have a1 := HN5.out.cell 1
    have a2 := HN5.out.cell 2
    have b0 := HK5.out.cell 0
    have b1 := HK5.out.cell 1
    have b2 := HK5.out.cell 2
    clear hW5
    refine (same_refl A2 n2 c2 PV A4 n4 c4 W5 HP5.out.rd HQ5.out).mono ?_
    rintro e w' ⟨rfl, rfl⟩
    go_wp2_with fail
    have hm2 : c2 ≤ 9223372036854775807 := by have := HP5.out.rd.max; unfold maxLen at this; omega
    have hn2 : n2 ≤ c2 := HP5.out.rd.cap
    go_loopw [45] (fun i wr => ∃ (j : Nat) (l' : List UInt8), j ≤ n2 ∧ i = .int .i64 j ∧ Own wr w1.heap.size A2 n2 c2 l' ∧ Below w1.heap.size w1 wr) (fun i _ => n2 - (intOf i).toNat)
    case atStart => exact ⟨0, PV, Nat.zero_le _, rfl, HP5.out, HL5.out⟩
    case round =>
      clear a0 a1 a2 b0 b1 b2
      obtain ⟨j, l', hj, rfl, hown, hbel⟩ := hrel
      have HO := Lib.hid hown
      clear hown
      have HBW : Hid (Below w.heap.size w wr) := HB1.out.trans (hbel.mono HB1.out.size)
      by_cases hlt : j < n2
      · obtain ⟨g2, rfl, hg2⟩ := HO.out.split (by omega)
        have hcell : wr.cell? ⟨g2, j, none⟩ = some (B8 (l'.getD j 0)) := own_cell HO.out j hlt
        have hfr : wr.frozen? ⟨g2, j, none⟩ = false := HO.out.frozenAt j
        obtain ⟨x, HX⟩ : ∃ x, Hid (x = l'.getD j 0) := ⟨_, rfl⟩
        rw [← HX.out] at hcell
        have hx := x.toNat_lt
        have hfl := flip255 x
        go_wp2
        go_roundw
        case rel => exact ⟨j + 1, l'.set j (x ^^^ 255), by omega, by go_num, own_set HO.out j (x ^^^ 255), hbel.setCell hg2 _⟩
        case measure => first | (simp [intOf]; done) | (simp [intOf]; omega)
      · obtain rfl : j = n2 := by omega
        have HI5 := Lib.hid (HI1.out.below hbel)
        have HR5 := Lib.hid (HR.out.below HBW.out)
        clear hbel HO
        go_wp2_with (first
          | (go_at_call 16; refine (same_refl A1 n c1 L A n c _ HI5.out HR5.out).mono ?_; rintro e w' ⟨rfl, rfl⟩)
          | (go_at_call 12; refine (known_any _).mono ?_; rintro e w6 ⟨rfl, hb6⟩))
        go_ret
        exact ⟨rfl, HBW.out.trans (hb6.mono HBW.out.size)⟩

/-- Made again. -/
theorem readx_page (n : Nat) (L : List UInt8) (hl : n = L.length) (hE : rE n L = 0) : n = 224 ∧ rR n L = RefV (rPage L) (rCommit L) (rGen L) ∧ rP n L = rPiece L ∧ (rPiece L).length = rSize L ∧ 1 ≤ rSize L ∧ rSize L ≤ 208 ∧ pageB (rPiece L) (rPage L) (rCommit L) (rGen L) = L := by
  by_cases h : n = 224
  · subst h
    cases hk : rOk L with
    | false => rw [(r_bad L hk).1] at hE; omega
    | true =>
      obtain ⟨h1, h2, h3⟩ := (rOk_iff L).1 hk
      obtain ⟨_, e2, e3⟩ := r_ok L hk
      exact ⟨rfl, e2, e3, rPiece_length L hl.symm h2, h1, h2, (page_read L hl.symm h2).2 h3⟩
  · rw [(r_len n L h).1] at hE; omega
theorem readx_none (n : Nat) (L : List UInt8) (hE : rE n L ≠ 0) : rR n L = Ref0 ∧ rP n L = [] ∧ (rE n L = if n = 224 then 5 else 2) := by
  by_cases h : n = 224
  · subst h
    cases hk : rOk L with
    | false => exact ⟨(r_bad L hk).2.1, (r_bad L hk).2.2, (r_bad L hk).1⟩
    | true => exact absurd (r_ok L hk).1 hE
  · exact ⟨(r_len n L h).2.1, (r_len n L h).2.2, by rw [(r_len n L h).1, if_neg h]⟩
set_option maxHeartbeats 1600000 in
theorem chainOnly_walk (A : Option Addr) (n c : Nat) (L : List UInt8) (w : World) (h : Rd w A n c L) (hc : c ≤ 140737488351232) :
    Calls Try.prog 8 #[.slice A n c] w fun e w' => e = .returned (.bool true) ∧ Below w.heap.size w w' := by
  have hcap := h.cap
  by_cases hn : 4096 < n
  · have hd : decide ((n : Int) > 4096) = true := decide_eq_true (by omega)
    clear h
    go_enter Try.func8, Try.ntmps8
    go_wp2_with (go_at_call 12; refine (known_any _).mono ?_; rintro e w3 ⟨rfl, hb3⟩)
    go_ret
    exact ⟨rfl, hb3⟩
  · have hd : decide ((n : Int) > 4096) = false := decide_eq_false (by omega)
    have HR := Lib.hid h
    have HL : Hid (n = L.length) := h.len
    have hrd := readx A n c L w h (by omega)
    clear h
    by_cases hE : rE n L = 0
    · obtain ⟨h224, e2, e3, e4, h1, h2, e5⟩ := readx_page n L HL.out hE
      rw [hE, e2, e3] at hrd
      have hp := rPage_lt L
      have hq := rCommit_lt L
      have hg := rGen_lt L
      obtain ⟨p, Hp⟩ : ∃ p, Hid (rPage L = p) := ⟨_, rfl⟩
      obtain ⟨q, Hq⟩ : ∃ p, Hid (rCommit L = p) := ⟨_, rfl⟩
      obtain ⟨g, Hg⟩ : ∃ p, Hid (rGen L = p) := ⟨_, rfl⟩
      obtain ⟨l, Hl⟩ : ∃ p, Hid (rPiece L = p) := ⟨_, rfl⟩
      obtain ⟨s, Hs⟩ : ∃ p, Hid (rSize L = p) := ⟨_, rfl⟩
      rw [Hp.out, Hq.out, Hg.out, Hl.out] at e5
      rw [Hp.out] at hp
      rw [Hq.out] at hq
      rw [Hg.out] at hg
      rw [Hs.out] at h1 h2
      rw [Hl.out, Hs.out] at e4
      rw [Hp.out, Hq.out, Hg.out, Hl.out] at hrd
      have HRD := Lib.hid hrd
      have HE4 := Lib.hid e4
      have HE5 := Lib.hid e5
      clear hrd e2 e3 e4 e5 hE Hp Hq Hg Hl Hs
      subst h224
      have HCV := Lib.hid (fun (W : World) (A : Option Addr) (c : Nat) (h : Rd W A 224 c L) => h.str (P := Try.prog) 27 5 9 Try.underlying27 Try.underlying5 Try.underlying9)
      go_enter Try.func8, Try.ntmps8
      go_wp2_with fail
      refine HRD.out.mono ?_
      rintro e w2 ⟨A2, n2, c2, rfl, hown2, hb2⟩
      have hn2 : n2 = s := by rw [hown2.len, HE4.out]
      have HB3 : Hid (Below w.heap.size w (w2.alloc (.cells #[.int .u32 p, .int .u64 q, .int .u16 g] 32))) := hb2.alloc hb2.size _
      have HK3 : Hid (Blk (w2.alloc (.cells #[.int .u32 p, .int .u64 q, .int .u16 g] 32)) w2.heap.size 32 #[.int .u32 p, .int .u64 q, .int .u16 g]) := Blk.new _ _ _
      have HO3 : Hid (Rd (w2.alloc (.cells #[.int .u32 p, .int .u64 q, .int .u16 g] 32)) A2 n2 c2 l) := (hown2.alloc _).rd
      clear hown2 hb2
      subst hn2
      go_wp2_with fail
      refine (page_any A2 n2 c2 l p q g _ HO3.out h1 h2 hp hq hg).mono ?_
      rw [HE5.out]
      rintro e w4 ⟨A4, c4, rfl, hown4, hb4⟩
      have HB4 := Lib.hid (HB3.out.trans (hb4.mono HB3.out.size))
      have k1 := HCV.out w4 A4 c4 hown4.rd
      have k2 := HCV.out w4 A c (HR.out.below HB4.out)
      clear hown4 hb4
      go_wp2_with (go_at_call 12; refine (known_any _).mono ?_; rintro e w6 ⟨rfl, hb6⟩)
      go_ret
      exact ⟨rfl, HB4.out.trans (hb6.mono HB4.out.size)⟩
    · obtain ⟨e2, e3, e4⟩ := readx_none n L hE
      rw [e2, e3] at hrd
      have hne : ((if n = 224 then (5 : Int) else 2) != 0) = true := by split <;> rfl
      have hdd : ((if n = 224 then (5 : Int) else 2) == 2) = ((n : Int) != 224) := by
        split
        · next h => subst h; rfl
        · next h => rw [show ((n : Int) != 224) = true by rw [bne_iff_ne]; omega]; rfl
      rw [e4] at hrd
      obtain ⟨EV, HEV⟩ : ∃ E : Int, Hid ((if n = 224 then (5 : Int) else 2) = E) := ⟨_, rfl⟩
      rw [HEV.out] at hrd hne hdd
      have HRD := Lib.hid hrd
      clear hrd e2 e3 e4 hE
      go_enter Try.func8, Try.ntmps8
      go_wp2_with fail
      refine HRD.out.mono ?_
      rintro e w2 ⟨A2, n2, c2, rfl, hown2, hb2⟩
      obtain rfl : n2 = 0 := hown2.len
      have HB3 : Hid (Below w.heap.size w (w2.alloc (.cells #[.int .u32 0, .int .u64 0, .int .u16 0] 32))) := hb2.alloc hb2.size _
      have HK3 : Hid (Blk (w2.alloc (.cells #[.int .u32 0, .int .u64 0, .int .u16 0] 32)) w2.heap.size 32 #[.int .u32 0, .int .u64 0, .int .u16 0]) := Blk.new _ _ _
      clear hown2 hb2
      go_wp2_with (go_at_call 12; refine (known_any _).mono ?_; rintro e w6 ⟨rfl, hb6⟩)
      go_ret
      exact ⟨rfl, HB3.out.trans (hb6.mono HB3.out.size)⟩
end Go.Proofs.Ytbfcpapibenndaa

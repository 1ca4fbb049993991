/- Contracts: ghash's hash of two texts. -/
import Derived.Test.YtikhnjoobhfgdaaGhC
import Derived.Test.YtikhnjoobhfgdaaGhSum
set_option linter.unusedVariables false
namespace Go.Proofs.Ytikhnjoobhfgdaa
open Go.RowKit

def Lt128 (s : Nat) : Prop := s < 2 ^ 128
/-- The state behind j of the two texts. -/
def gst (h : Nat) (l1 l2 : List UInt8) : Nat → Nat
  | 0 => 0
  | 1 => ght h 0 l1
  | _ => ght h (ght h 0 l1) l2
theorem times_o (X Y : Nat) (xh xl yh yl zh zl : Nat) (hX : X < 2 ^ 128) (hY : Y < 2 ^ 128) (e1 : Hid (hi X = xh)) (e2 : Hid (lo X = xl)) (e3 : Hid (hi Y = yh)) (e4 : Hid (lo Y = yl)) (e5 : Hid (hi (gmul X Y) = zh)) (e6 : Hid (lo (gmul X Y) = zl)) (w : World) :
    Calls Try.prog 18 #[EV xh xl, EV yh yl] w fun e w' => e = .returned (EV zh zl) ∧ Below w.heap.size w w' := by
  rw [← e1.out, ← e2.out, ← e3.out, ← e4.out, ← e5.out, ← e6.out]
  exact times_el X Y hX hY w
set_option maxRecDepth 100000 in
set_option maxHeartbeats 3200000 in
theorem sum_any (hb : List UInt8) (hl : hb.length = 16) (A1 : Option Addr) (n1 c1 : Nat) (l1 : List UInt8) (A2 : Option Addr) (n2 c2 : Nat) (l2 : List UInt8) (w : World) (h1 : Rd w A1 n1 c1 l1) (h2 : Rd w A2 n2 c2 l2) (hn1 : n1 ≤ 140737488355328) (hn2 : n2 ≤ 140737488355328) :
    Calls Try.prog 10 #[A16 hb, .slice A1 n1 c1, .slice A2 n2 c2] w fun e w' => e = .returned (A16 (be (gfin (num hb) l1 l2) 16)) ∧ Below w.heap.size w w' := by
  obtain ⟨H, HH⟩ : ∃ H, Hid (w.heap.size = H) := ⟨_, rfl⟩
  obtain ⟨cx, Hcx⟩ : ∃ cs, Hid (cs = hb.map B8) := ⟨_, rfl⟩
  obtain ⟨z, HZ⟩ : ∃ z, Hid (z = List.replicate 16 (Value.int .u8 0)) := ⟨_, rfl⟩
  obtain ⟨h, Hh⟩ : ∃ h, Hid (num hb = h) := ⟨_, rfl⟩
  obtain ⟨kh, Hkh⟩ : ∃ v, Hid (hi (num hb) = v) := ⟨_, rfl⟩
  obtain ⟨kl, Hkl⟩ : ∃ v, Hid (lo (num hb) = v) := ⟨_, rfl⟩
  have lx : Hid (cx.length = 16) := by show _ = _; rw [Hcx.out]; simpa using hl
  have lz : Hid (z.length = 16) := by show _ = _; rw [HZ.out]; simp
  have HL := Lib.hid hl
  have HU : Hid (Try.prog.underlying 22 = some (.array 16 5)) := Try.underlying22
  have R1 := Lib.hid h1
  have R2 := Lib.hid h2
  have cap1 := h1.cap
  have cap2 := h2.cap
  have mx1 := h1.max
  have mx2 := h2.max
  unfold maxLen at mx1 mx2
  have hz2 : ∀ W : World, (zeroValue 22).run Try.prog W = .ok (.agg z.toArray) W := fun W => by rw [HZ.out]; kernel_rfl
  clear h1 h2 hl
  rw [A16, ← Hcx.out]
  go_enter Try.func10, Try.ntmps10
  have KX0 : Hid (Blk ((w.alloc (.cells cx.toArray 22)).alloc (.cells z.toArray 22)) w.heap.size 22 cx.toArray) := (Blk.new _ _ _).alloc _
  go_wp2_with (with_reducible refine wpList_load_blk rfl 22 (.tmp 3) rfl rfl KX0.out _ HU.out rfl (by rw [lx.out]; exact infoA16) ?_)
  refine (of_el' hb cx Hcx HL.out kh kl Hkh Hkl _).mono ?_
  rintro e w1 ⟨rfl, hb1⟩
  have KR1 : Hid (Blk w1 (H + 1) 22 z.toArray) := (Blk.new' (w.alloc (.cells cx.toArray 22)) _ z.toArray (H + 1) (by simp [HH.out])).below hb1 (by simp [HH.out])
  have HB1 : Hid (Below H w w1) := by
    have := ((below_new w (.cells cx.toArray 22)).alloc (by simp) (.cells z.toArray 22)).trans (hb1.mono (by simp; omega))
    rwa [HH.out] at this
  clear hb1 KX0
  rw [HH.out]
  go_wp2_with fail
  obtain ⟨G, hG⟩ : ∃ G, w1.heap.size = G := ⟨_, rfl⟩
  obtain ⟨W, hW⟩ : ∃ W, W = (((w1.alloc (.cells #[.int .u64 kh, .int .u64 kl] 37)).alloc (.cells #[.int .u64 0, .int .u64 0] 37)).alloc (.cells #[.slice A1 n1 c1, .slice A2 n2 c2] 23)) := ⟨_, rfl⟩
  have KB : Hid (Blk W G 37 #[.int .u64 kh, .int .u64 kl]) := by rw [hW]; exact ((Blk.new' _ _ _ _ hG).alloc _).alloc _
  have KS : Hid (Blk W (G + 1) 37 #[.int .u64 0, .int .u64 0]) := by rw [hW]; exact (Blk.new' _ _ _ _ (by simp [hG])).alloc _
  have KL : Hid (Blk W (G + 1 + 1) 23 #[.slice A1 n1 c1, .slice A2 n2 c2]) := by rw [hW]; exact Blk.new' _ _ _ _ (by simp [hG])
  have KR : Hid (Blk W (H + 1) 22 z.toArray) := by rw [hW]; exact ((KR1.out.alloc _).alloc _).alloc _
  have hHG : H + 1 < G := by rw [← hG]; exact KR1.out.lt
  have HB : Hid (Below H w W) := by
    rw [hW]
    exact ((HB1.out.alloc (by omega) _).alloc (by simp; omega) _).alloc (by simp; omega) _
  rw [← hW, hG]
  clear hW hG KR1 HB1
  have hh128 := num_lt16 hb HL.out
  have HH128 : Hid (Lt128 h) := by rw [← Hh.out]; exact hh128
  clear hh128
  have Hkh2 : Hid (hi h = kh) := by rw [← Hh.out]; exact Hkh.out
  have Hkl2 : Hid (lo h = kl) := by rw [← Hh.out]; exact Hkl.out
  go_loopw [21] (fun s21 wr => ∃ (j S : Nat), j ≤ 2 ∧ s21 = .int .i64 j ∧ Lt128 S ∧ S = gst h l1 l2 j ∧ Blk wr (G + 1) 37 #[.int .u64 (hi S), .int .u64 (lo S)] ∧ Blk wr G 37 #[.int .u64 kh, .int .u64 kl] ∧
      Blk wr (G + 1 + 1) 23 #[.slice A1 n1 c1, .slice A2 n2 c2] ∧ Blk wr (H + 1) 22 z.toArray ∧ Below H w wr) (fun s21 _ => 2 - (intOf s21).toNat)
  case atStart => exact ⟨0, 0, by omega, rfl, by show 0 < 2 ^ 128; decide, rfl, KS.out, KB.out, KL.out, KR.out, HB.out⟩
  case round =>
    clear KS KB KL KR HB
    obtain ⟨j, S, hj, rfl, hS, hSj, hs, hby, hsl, hr, hbel⟩ := hrel
    have LS := Lib.hid hS
    have ES := Lib.hid hSj
    have BS := Lib.hid hs
    have BB := Lib.hid hby
    have BL := Lib.hid hsl
    have BR := Lib.hid hr
    clear hS hSj hs hby hsl hr
    by_cases hlt : j < 2
    · have hex : ∃ (A : Option Addr) (n c : Nat) (l : List UInt8), wr.cell? ⟨G + 1 + 1, j, none⟩ = some (.slice A n c) ∧ Rd w A n c l ∧ gst h l1 l2 (j + 1) = ght h S l ∧ n ≤ 140737488355328 := by
        rcases Nat.lt_or_ge j 1 with h0 | h0
        · obtain rfl : j = 0 := by omega
          exact ⟨A1, n1, c1, l1, BL.out.cell 0, R1.out, by rw [ES.out]; rfl, hn1⟩
        · obtain rfl : j = 1 := by omega
          exact ⟨A2, n2, c2, l2, BL.out.cell 1, R2.out, by rw [ES.out]; rfl, hn2⟩
      obtain ⟨A, n, c, l, hcell, hrd, hnext, hn⟩ := hex
      have RL := Lib.hid hrd
      have EN := Lib.hid hnext
      have hltj : (j : Int) < 2 := by omega
      clear hrd hnext
      go_wp2_with fail
      obtain ⟨wo, rfl⟩ : ∃ wo : World, wo = wr := ⟨_, rfl⟩
      go_loopw [10] (fun s10 wr => ∃ (A' : Option Addr) (n' c' : Nat) (l' : List UInt8) (S' : Nat), s10 = .slice A' n' c' ∧ Rd w A' n' c' l' ∧ n' ≤ 140737488355328 ∧ Lt128 S' ∧ ght h S' l' = ght h S l ∧ Blk wr (G + 1) 37 #[.int .u64 (hi S'), .int .u64 (lo S')] ∧ Blk wr G 37 #[.int .u64 kh, .int .u64 kl] ∧
          Blk wr (G + 1 + 1) 23 #[.slice A1 n1 c1, .slice A2 n2 c2] ∧ Blk wr (H + 1) 22 z.toArray ∧ Below H w wr) (fun s10 _ => lenV s10)
      case atStart => exact ⟨A, n, c, l, S, rfl, RL.out, hn, LS.out, rfl, BS.out, BB.out, BL.out, BR.out, hbel⟩
      case round =>
        clear hbel hcell
        obtain ⟨A', n', c', l', S', rfl, hrd, hn', hS', hght, hs, hby, hsl, hr, hbel⟩ := hrel
        have RW := Lib.hid hrd
        have RD := Lib.hid (hrd.below (by rw [HH.out]; exact hbel))
        have LS' := Lib.hid hS'
        have EG := Lib.hid hght
        have CS := Lib.hid hs
        have CB := Lib.hid hby
        have CL := Lib.hid hsl
        have CR := Lib.hid hr
        have hcap := hrd.cap
        have hmax := hrd.max
        unfold maxLen at hmax
        clear hrd hS' hght hs hby hsl hr
        by_cases hlp : 0 < n'
        · have hd : decide ((n' : Int) > 0) = true := decide_eq_true (by omega)
          obtain ⟨m, hm⟩ : ∃ m, m = min n' 16 := ⟨_, rfl⟩
          have hm1 : m ≤ n' := by omega
          have hm16 : m ≤ 16 := by omega
          have hm0 : 0 < m := by omega
          obtain ⟨b, o, rfl, _⟩ := RD.out.at_ hlp
          obtain ⟨X, HX⟩ : ∃ X, Hid (num (pad16 l') = X) := ⟨_, rfl⟩
          obtain ⟨xh, Hxh⟩ : ∃ v, Hid (hi (num (pad16 l')) = v) := ⟨_, rfl⟩
          obtain ⟨xl, Hxl⟩ : ∃ v, Hid (lo (num (pad16 l')) = v) := ⟨_, rfl⟩
          obtain ⟨sh, Hsh⟩ : ∃ v, Hid (hi S' = v) := ⟨_, rfl⟩
          obtain ⟨sl, Hsl⟩ : ∃ v, Hid (lo S' = v) := ⟨_, rfl⟩
          obtain ⟨ph, Hph⟩ : ∃ v, Hid (hi (S' ^^^ X) = v) := ⟨_, rfl⟩
          obtain ⟨pl, Hpl⟩ : ∃ v, Hid (lo (S' ^^^ X) = v) := ⟨_, rfl⟩
          obtain ⟨zh, Hzh⟩ : ∃ v, Hid (hi (gmul (S' ^^^ X) h) = v) := ⟨_, rfl⟩
          obtain ⟨zl, Hzl⟩ : ∃ v, Hid (lo (gmul (S' ^^^ X) h) = v) := ⟨_, rfl⟩
          have hX := num_lt16 (pad16 l') (pad16_length l')
          rw [HX.out] at hX
          have LX := Lib.hid hX
          clear hX
          rw [Hsh.out, Hsl.out] at CS
          have hx1 : bits .xor .u64 (sh : Int) (xh : Int) = (ph : Int) := by
            have e : sh ^^^ xh = ph := by rw [← Hsh.out, ← Hxh.out, ← Hph.out, HX.out, hi_xor]
            rw [← e]
            exact u64_xor_nat sh xh (by rw [← Hsh.out]; exact hi_lt LS'.out) (by rw [← Hxh.out, HX.out]; exact hi_lt LX.out)
          have hx2 : bits .xor .u64 (sl : Int) (xl : Int) = (pl : Int) := by
            have e : sl ^^^ xl = pl := by rw [← Hsl.out, ← Hxl.out, ← Hpl.out, HX.out, lo_xor]
            rw [← e]
            exact u64_xor_nat sl xl (by rw [← Hsl.out]; exact lo_lt _) (by rw [← Hxl.out]; exact lo_lt _)
          have hGB : G + 1 + 1 < wr.heap.size := CL.out.lt
          have hbB : b < wr.heap.size := RD.out.lt hlp
          have KB1 : Hid (Blk (wr.alloc (.cells z.toArray 22)) wr.heap.size 22 z.toArray) := Blk.new _ _ _
          have KS1 := Lib.hid (CS.out.alloc (.cells z.toArray 22))
          have KY1 := Lib.hid (CB.out.alloc (.cells z.toArray 22))
          have KL1 := Lib.hid (CL.out.alloc (.cells z.toArray 22))
          have KR1 := Lib.hid (CR.out.alloc (.cells z.toArray 22))
          have RD1 := Lib.hid (RD.out.below (below_new wr (.cells z.toArray 22)))
          have HB1 : Hid (Below H w (wr.alloc (.cells z.toArray 22))) := hbel.alloc (by omega) _
          obtain ⟨cs, Hcs⟩ : ∃ cs, Hid (cs = (l'.take m).map B8) := ⟨_, rfl⟩
          have hlen := RD.out.len
          have Lcs : Hid (cs.length = m) := by show _ = _; rw [Hcs.out, List.length_map, List.length_take, ← hlen]; omega
          have Hlen := Lib.hid hlen
          clear hlen
          have HM := Lib.hid hm
          clear hm
          have hsp : Hid (splice z 0 cs = (pad16 l').map B8) := by
            show _ = _
            have e : z = List.replicate 16 (B8 0) := HZ.out
            rw [Hcs.out, e, pad16]
            have e2 : m = min l'.length 16 := by rw [HM.out, Hlen.out]
            simp only [splice, List.take_zero, List.nil_append, Nat.zero_add, List.map_append, List.drop_replicate, List.length_map, List.length_take, List.map_replicate]
            congr 1
            · rw [e2]
              congr 1
              rcases Nat.le_total l'.length 16 with h | h
              · rw [Nat.min_eq_left h, List.take_of_length_le (Nat.le_refl _), List.take_of_length_le h]
              · rw [Nat.min_eq_right h]
            · congr 1; omega
          have LPD : Hid (((pad16 l').map B8).length = 16) := by simp [pad16_length, Hid]
          have HRD' : Hid (∀ (wz : World) (A : Option Addr) (nn cc : Nat), Rd wz (some ⟨b, o, none⟩) n' c' l' → nn = n' - m → (0 < nn → A = some ⟨b, o + m, none⟩) → nn ≤ cc → cc ≤ maxLen → Rd wz A nn cc (l'.drop 16)) := by
            intro wz A nn cc hr hnn hA h1 h2
            have := hr.part m nn cc A hA (by omega) h1 h2
            have e : (l'.drop m).take nn = l'.drop 16 := by
              rw [List.take_of_length_le (by rw [List.length_drop, ← hr.len]; omega)]
              rcases Nat.le_total n' 16 with h | h
              · rw [List.drop_of_length_le (by rw [← hr.len]; have := HM.out; omega), List.drop_of_length_le (by rw [← hr.len]; omega)]
              · rw [show m = 16 by have := HM.out; omega]
            rwa [e] at this
          have Hcell : Hid (∀ j v, cs[j]? = some v → wr.cell? ⟨b, o + j, none⟩ = some v) := by
            intro j v hj
            have hjm : j < cs.length := (List.getElem?_eq_some_iff.1 hj).1
            have hjm2 : j < m := by have := Lcs.out; omega
            obtain ⟨b', o', e, hc⟩ := RD.out.at_ hlp
            injection e with e; injection e with e1 e2
            subst e1; subst e2
            rw [hc j (by omega)]
            rw [Hcs.out] at hj
            have hjl : j < l'.length := by rw [← Hlen.out]; omega
            simpa [List.getD, List.getElem?_take, List.getElem?_eq_getElem hjl, hjm2] using hj
          have HM2 : Hid (cs.length = n'.min 16) := by show _ = _; rw [Lcs.out]; exact HM.out
          have hcsl : cs.length ≤ 16 := by rw [Lcs.out]; exact hm16
          by_cases hcm : c' = m
          all_goals
            (first | subst hcm | have hcm' : ¬ ((c' : Int) = (m : Int)) := by omega)
            go_wp2_with (with_reducible refine wpList_copy_blk (off := 0) rfl (.tmp 28) (.tmp 29) 23 23 rfl 5 Try.underlying23 infoB1 _ _ _ _ _ _ rfl rfl KB1.out cs ?_ ?_ ?_ ?_ ?_)
            · exact HM2.out
            · intro _
              exact Hcell.out
            · rw [lz.out]; omega
            · intro v hv
              rw [Hcs.out] at hv
              exact b8_one v hv
            intro w2 hk2 hg2
            rw [hsp.out] at hk2
            have KB2 := Lib.hid hk2
            have KS2 := Lib.hid (KS1.out.keep_grown hg2 (by simp; omega))
            have KY2 := Lib.hid (KY1.out.keep_grown hg2 (by simp; omega))
            have KL2 := Lib.hid (KL1.out.keep_grown hg2 (by simp; omega))
            have KR2 := Lib.hid (KR1.out.keep_grown hg2 (by simp; omega))
            have HB2 : Hid (Below H w w2) := HB1.out.grown hg2 (by simp; omega) (by intro k hk; simp at hk; omega)
            have hbw : Below wr.heap.size wr w2 := (below_new wr _).grown hg2 (by simp) (by intro k hk; simp at hk; omega)
            have RD2 := Lib.hid (RD.out.below hbw)
            clear hbw
            clear hk2 hg2
            rw [Lcs.out]
            go_wp2_with (with_reducible refine wpList_load_blk rfl 22 (.tmp 11) rfl rfl KB2.out _ HU.out rfl (by rw [LPD.out]; exact infoA16) ?_)
            refine (of_el' (pad16 l') _ rfl (pad16_length l') xh xl Hxh Hxl _).mono ?_
            rintro e w3 ⟨rfl, hb3⟩
            have KS3 := Lib.hid (KS2.out.below hb3 KS2.out.lt)
            have KY3 := Lib.hid (KY2.out.below hb3 KY2.out.lt)
            have KL3 := Lib.hid (KL2.out.below hb3 KL2.out.lt)
            have KR3 := Lib.hid (KR2.out.below hb3 KR2.out.lt)
            have RD3 := Lib.hid (RD2.out.below hb3)
            have hH3 : H < w2.heap.size := by have := KR2.out.lt; omega
            have HB3 := Lib.hid (HB2.out.trans (hb3.mono (Nat.le_of_lt hH3)))
            clear hb3
            have s0 := KS3.out.cell 0
            have s1 := KS3.out.cell 1
            have y0 := KY3.out.cell 0
            have y1 := KY3.out.cell 1
            have fs0 := KS3.out.frozen 0
            have fs1 := KS3.out.frozen 1
            have ltS := KS3.out.lt
            have ltY := KY3.out.lt
            have HP := Lib.hid (xor_lt LS'.out LX.out)
            have HT : Hid (∀ W, Calls Try.prog 18 #[EV ph pl, EV kh kl] W fun e w' => e = .returned (EV zh zl) ∧ Below W.heap.size W w') := fun W => times_o (S' ^^^ X) h ph pl kh kl zh zl HP.out HH128.out Hph Hpl Hkh2 Hkl2 Hzh Hzl W
            go_wp2_with fail
            refine (HT.out _).mono ?_
            rintro e w4 ⟨rfl, hb4⟩
            have KS4 := Lib.hid ((KS3.out.alloc (.cells #[.int .u64 xh, .int .u64 xl] 37)).below hb4 (by simp; omega))
            have KY4 := Lib.hid ((KY3.out.alloc (.cells #[.int .u64 xh, .int .u64 xl] 37)).below hb4 (by simp; omega))
            have KL4 := Lib.hid ((KL3.out.alloc (.cells #[.int .u64 xh, .int .u64 xl] 37)).below hb4 (KL3.out.alloc _).lt)
            have KR4 := Lib.hid ((KR3.out.alloc (.cells #[.int .u64 xh, .int .u64 xl] 37)).below hb4 (KR3.out.alloc _).lt)
            have RD4 := Lib.hid ((RD3.out.below (below_new w3 (.cells #[.int .u64 xh, .int .u64 xl] 37))).below hb4)
            have HB4 : Hid (Below H w w4) := (HB3.out.alloc (by omega) _).trans (hb4.mono (by simp; omega))
            clear hb4 s0 s1 y0 y1 fs0 fs1 ltS ltY
            have fs0 := KS4.out.frozen 0
            have fs1 := KS4.out.frozen 1
            have s0 := KS4.out.cell 0
            have s1 := KS4.out.cell 1
            go_wp2
            go_roundw
            case rel =>
              refine ⟨_, _, _, l'.drop 16, gmul (S' ^^^ X) h, rfl, HRD'.out _ _ _ _ RW.out (by omega) (by intro h0; first | rfl | omega) (by omega) (by unfold maxLen; omega), by omega, gmul_lt HH128.out, ?_, ?_, ?_, ?_, ?_, ?_⟩
              · rw [← EG.out, ght_step h S' l' (by rw [← Hlen.out]; exact hlp), HX.out]
              · rw [Hzh.out, Hzl.out]; exact KS4.out.pair _ _
              · exact (KY4.out.far (by simp) _).far (by simp) _
              · exact (KL4.out.far (by simp) _).far (by simp) _
              · exact (KR4.out.far (by simp; omega) _).far (by simp; omega) _
              · exact (HB4.out.setCell (by simp; omega) _).setCell (by simp; omega) _
            case measure => simp [lenV]; omega
        · have hn0 : n' = 0 := by omega
          have hl0 : l' = [] := List.eq_nil_of_length_eq_zero (by rw [← RD.out.len]; exact hn0)
          have EG2 : Hid (S' = ght h S l) := by rw [← EG.out, hl0]; rfl
          have hd : decide ((n' : Int) > 0) = false := decide_eq_false (by omega)
          clear hl0 hn0
          go_wp2
          go_roundw
          case rel => exact ⟨j + 1, S', by omega, by go_num, LS'.out, by rw [EN.out]; exact EG2.out, CS.out, CB.out, CL.out, CR.out, hbel⟩
          case measure => first | (simp [intOf]; done) | (simp [intOf]; omega)
    · obtain rfl : j = 2 := by omega
      obtain ⟨sh, Hsh⟩ : ∃ v, Hid (hi S = v) := ⟨_, rfl⟩
      obtain ⟨sl, Hsl⟩ : ∃ v, Hid (lo S = v) := ⟨_, rfl⟩
      obtain ⟨X, HX⟩ : ∃ v, Hid (glens n1 n2 = v) := ⟨_, rfl⟩
      obtain ⟨ph, Hph⟩ : ∃ v, Hid (hi (S ^^^ X) = v) := ⟨_, rfl⟩
      obtain ⟨pl, Hpl⟩ : ∃ v, Hid (lo (S ^^^ X) = v) := ⟨_, rfl⟩
      obtain ⟨R, HR⟩ : ∃ v, Hid (gmul (S ^^^ X) h = v) := ⟨_, rfl⟩
      obtain ⟨zh, Hzh⟩ : ∃ v, Hid (hi (gmul (S ^^^ X) h) = v) := ⟨_, rfl⟩
      obtain ⟨zl, Hzl⟩ : ∃ v, Hid (lo (gmul (S ^^^ X) h) = v) := ⟨_, rfl⟩
      have hXh : hi X = 8 * n1 := by rw [← HX.out]; unfold hi glens; omega
      have hXl : lo X = 8 * n2 := by rw [← HX.out]; unfold lo glens; omega
      have LX : Hid (Lt128 X) := by show X < 2 ^ 128; rw [← HX.out]; unfold glens; omega
      rw [Hsh.out, Hsl.out] at BS
      have w1 : IntKind.u64.wrap (n1 : Int) = (n1 : Int) := IntWalk.u64_in _ (by omega)
      have w2 : IntKind.u64.wrap (n2 : Int) = (n2 : Int) := IntWalk.u64_in _ (by omega)
      have w3 : IntKind.u64.wrap (8 * (n1 : Int)) = 8 * (n1 : Int) := IntWalk.u64_in _ (by omega)
      have w4 : IntKind.u64.wrap (8 * (n2 : Int)) = 8 * (n2 : Int) := IntWalk.u64_in _ (by omega)
      have hx1 : bits .xor .u64 (sh : Int) (8 * (n1 : Int)) = (ph : Int) := by
        have e : sh ^^^ (8 * n1) = ph := by rw [← Hsh.out, ← Hph.out, hi_xor, hXh]
        rw [← e, show (8 * (n1 : Int)) = ((8 * n1 : Nat) : Int) by omega]
        exact u64_xor_nat sh (8 * n1) (by rw [← Hsh.out]; exact hi_lt LS.out) (by omega)
      have hx2 : bits .xor .u64 (sl : Int) (8 * (n2 : Int)) = (pl : Int) := by
        have e : sl ^^^ (8 * n2) = pl := by rw [← Hsl.out, ← Hpl.out, lo_xor, hXl]
        rw [← e, show (8 * (n2 : Int)) = ((8 * n2 : Nat) : Int) by omega]
        exact u64_xor_nat sl (8 * n2) (by rw [← Hsl.out]; exact lo_lt _) (by omega)
      clear hXh hXl
      have HP := Lib.hid (xor_lt LS.out LX.out)
      have HT : Hid (∀ W, Calls Try.prog 18 #[EV ph pl, EV kh kl] W fun e w' => e = .returned (EV zh zl) ∧ Below W.heap.size W w') := fun W => times_o (S ^^^ X) h ph pl kh kl zh zl HP.out HH128.out Hph Hpl Hkh2 Hkl2 Hzh Hzl W
      have HBY : Hid (∀ W, Calls Try.prog 19 #[EV zh zl] W fun e w' => e = .returned (A16 (be R 16)) ∧ Below W.heap.size W w') := fun W => by
        have := ofbytes (gmul (S ^^^ X) h) (gmul_lt HH128.out) W
        rwa [Hzh.out, Hzl.out, HR.out] at this
      have s0 := BS.out.cell 0
      have s1 := BS.out.cell 1
      have y0 := BB.out.cell 0
      have y1 := BB.out.cell 1
      have LR : Hid (((be R 16).map B8).length = 16) := by simp [be_length, Hid]
      have hfin : Hid (gfin (num hb) l1 l2 = R) := by
        show _ = _
        have e1 : S = ght h (ght h 0 l1) l2 := ES.out
        rw [gfin, Hh.out, ← e1, ← R1.out.len, ← R2.out.len, HX.out]
        exact HR.out
      go_wp2_with fail
      refine (HT.out _).mono ?_
      rintro e w5 ⟨rfl, hb5⟩
      have KR5 := Lib.hid (BR.out.below hb5 BR.out.lt)
      have HB5 := Lib.hid (hbel.trans (hb5.mono (by have := BR.out.lt; omega)))
      clear hb5
      go_wp2_with fail
      refine (HBY.out _).mono ?_
      rintro e w6 ⟨rfl, hb6⟩
      have KR6 := Lib.hid (KR5.out.below hb6 KR5.out.lt)
      have HB6 := Lib.hid (HB5.out.trans (hb6.mono (by have := KR5.out.lt; omega)))
      clear hb6
      go_wp2_with (with_reducible refine wpList_store_blk rfl 22 (.tmp 6) (.tmp 67) rfl rfl rfl KR6.out (by rw [LR.out, lz.out]) (by rw [LR.out]; exact infoA16) b8_one ?_; intro w8 hk8 hg8)
      refine bodyPost_ret (v := A16 (be R 16)) (ret_blk (p := 6) rfl rfl hk8 _ HU.out rfl (by rw [List.size_toArray, LR.out]; exact infoA16)) rfl ⟨by rw [hfin.out], ?_⟩
      rw [HH.out]
      exact HB6.out.grown hg8 (by have := KR6.out.lt; omega) (by intro k hk; simp at hk; omega)
end Go.Proofs.Ytikhnjoobhfgdaa

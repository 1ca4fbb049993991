/- The walk of ChainBack. -/
import Derived.Test.YtbfcpapibenndaaWkJoins
import Derived.Test.YtbfcpapibenndaaChH
set_option linter.unusedVariables false
namespace Go.Proofs.Ytbfcpapibenndaa
open Go.RowKit

/-- The pieces of a row of bytes. -/
def chunks (l : List UInt8) (k : Nat) : List (List UInt8) := (List.range k).map (chunk l)
theorem chunks_get (l : List UInt8) (k i : Nat) (h : i < k) : (chunks l k).getD i [] = chunk l i := by simp [chunks, List.getD, h]
theorem chunks_length (l : List UInt8) (k : Nat) : (chunks l k).length = k := by simp [chunks]
theorem chunk_length (l : List UInt8) (i : Nat) : (chunk l i).length = min 208 (l.length - 208 * i) := by simp [chunk]
theorem chunks_to (l : List UInt8) (k : Nat) : ∀ i, i ≤ k → jTo (chunks l k) l.length i = true
  | 0, _ => rfl
  | i + 1, h => by rw [jTo, chunks_to l k i (by omega), jAt, chunks_get l k i (by omega), chunk_length]; simp
theorem chunks_ok (l : List UInt8) (k : Nat) (hk : k = (l.length + 207) / 208) : jOk (chunks l k) l.length = true := by
  rw [jOk, chunks_length, chunks_to l k k (Nat.le_refl _), decide_eq_true hk]; rfl
theorem chunks_not (l : List UInt8) (k : Nat) (hk : k = (l.length + 207) / 208) : jOk (chunks l k) (l.length + 1) = false := by
  rw [jOk, chunks_length]
  by_cases e : k = (l.length + 1 + 207) / 208
  · have h0 : 0 < k := by omega
    rw [jTo_bad (i := k - 1) ?_ k (by omega), Bool.and_false]
    rw [jAt, chunks_get l k (k - 1) (by omega), chunk_length, beq_eq_false_iff_ne]
    omega
  · rw [decide_eq_false e, Bool.false_and]
theorem chunks_flat_take (l : List UInt8) (k : Nat) : ∀ i, i ≤ k → ((chunks l k).take i).flatten = l.take (208 * i)
  | 0, _ => by simp
  | i + 1, h => by
    rw [take_flatten_succ _ i (by rw [chunks_length]; omega), chunks_flat_take l k i (by omega), chunks_get l k i (by omega), chunk, show 208 * (i + 1) = 208 * i + 208 by omega, List.take_add]
theorem chunks_flat (l : List UInt8) (k : Nat) (hk : k = (l.length + 207) / 208) : (chunks l k).flatten = l := by
  have h1 := chunks_flat_take l k k (Nat.le_refl _)
  have h2 : (chunks l k).take k = chunks l k := List.take_of_length_le (by rw [chunks_length]; omega)
  rw [h2] at h1
  rw [h1]
  exact List.take_of_length_le (by omega)
theorem back_E (l : List UInt8) (k : Nat) (hk : k = (l.length + 207) / 208) (h : l.length ≤ 1024) : jE (chunks l k) (l.length : Int) = 0 ∧ jV (chunks l k) (l.length : Int) = l := by
  have e : pcsE (l.length : Int) = 0 := by rw [pcsE, if_neg (by omega), if_neg (by omega)]
  obtain ⟨h1, h2⟩ := j_ok e (by rw [Int.toNat_natCast]; exact chunks_ok l k hk)
  exact ⟨h1, by rw [h2, chunks_flat l k hk]⟩
theorem back_N (l : List UInt8) (k : Nat) (hk : k = (l.length + 207) / 208) : (jE (chunks l k) ((l.length : Int) + 1) != 0) = true := by
  rw [bne_iff_ne]
  by_cases e : pcsE ((l.length : Int) + 1) = 0
  · rw [(j_bad e (by rw [show ((l.length : Int) + 1).toNat = l.length + 1 by omega]; exact chunks_not l k hk)).1]; decide
  · rw [(j_badE e).1]; exact e
/-- What both make of a piece. -/
theorem readx_pageB (l : List UInt8) (p q g : Nat) (h1 : 1 ≤ l.length) (h2 : l.length ≤ 208) (hp : p < 4294967296) (hq : q < 18446744073709551616) (hg : g < 65536) :
    rE 224 (pageB l p q g) = 0 ∧ rR 224 (pageB l p q g) = RefV p q g ∧ rP 224 (pageB l p q g) = l := by
  obtain ⟨a1, a2, a3, a4, a5, a6⟩ := read_page l p q g h1 h2 hp hq hg
  have hk : rOk (pageB l p q g) = true := (rOk_iff _).2 ⟨by rw [a4]; exact h1, by rw [a4]; exact h2, by rw [a4]; exact a6⟩
  obtain ⟨b1, b2, b3⟩ := r_ok _ hk
  exact ⟨b1, by rw [b2, a1, a2, a3], by rw [b3, a5]⟩
theorem read_pageB (A : Option Addr) (c : Nat) (l : List UInt8) (p q g : Nat) (w : World) (h1 : 1 ≤ l.length) (h2 : l.length ≤ 208) (hp : p < 4294967296) (hq : q < 18446744073709551616) (hg : g < 65536) (h : Rd w A 224 c (pageB l p q g)) :
    Calls Try.prog 21 #[.slice A 224 c] w fun e w' => ∃ A' n' c', e = .returned (.tuple #[.slice A' n' c', RefV p q g, .int .i64 0]) ∧ Own w' w.heap.size A' n' c' l ∧ Below w.heap.size w w' := by
  obtain ⟨e1, e2, e3⟩ := readx_pageB l p q g h1 h2 hp hq hg
  have := readx A 224 c _ w h (by omega)
  rwa [e1, e2, e3] at this
theorem CutP.piece {w : World} {H g n c2 K : Nat} {l : List UInt8} {i : Nat} (h : Own w H (some ⟨g, 0, none⟩) n c2 l) (m : Nat) (hm : m = min 208 (n - 208 * i)) (hi : 208 * i < n) :
    Rd w (some ⟨g, 208 * i, none⟩) m m (chunk l i) := by
  have hl : n = l.length := h.len
  have hr := h.rd
  have hmx := hr.max
  have hcp := hr.cap
  have := hr.part (208 * i) m m (some ⟨g, 208 * i, none⟩) (fun _ => by rw [Nat.zero_add]) (by omega) (Nat.le_refl _) (by omega)
  have e : (l.drop (208 * i)).take m = chunk l i := by
    unfold chunk
    rw [List.take_eq_take_iff, List.length_drop]
    omega
  rw [e] at this
  exact this

set_option maxRecDepth 100000 in
set_option maxHeartbeats 6400000 in
theorem chainBack_walk (A : Option Addr) (n c : Nat) (l : List UInt8) (p q g : Nat) (w : World) (h : Rd w A n c l) (hc : c ≤ 140737488351232) (hp : p < 4294967296) (hq : q < 18446744073709551616) (hg : g < 65536) :
    Calls Try.prog 9 #[.slice A n c, RefV p q g] w fun e w' => e = .returned (.bool true) ∧ Below w.heap.size w w' := by
  have hcap := h.cap
  have HB : Hid (Below w.heap.size w (w.alloc (.cells #[.int .u32 p, .int .u64 q, .int .u16 g] 32))) := below_new1 _ _
  by_cases hn : 4096 < n
  · have hd : decide ((n : Int) > 4096) = true := decide_eq_true (by omega)
    clear h
    go_enter Try.func9, Try.ntmps9
    go_wp2_with (go_at_call 12; refine (known_any _).mono ?_; rintro e w3 ⟨rfl, hb3⟩)
    go_ret
    exact ⟨rfl, HB.out.trans (hb3.mono HB.out.size)⟩
  · have hd : decide ((n : Int) > 4096) = false := decide_eq_false (by omega)
    obtain ⟨W, hW⟩ : ∃ W, W = w.alloc (.cells #[.int .u32 p, .int .u64 q, .int .u16 g] 32) := ⟨_, rfl⟩
    have HWE := Lib.hid hW
    have HBW : Hid (Below w.heap.size w W) := by rw [hW]; exact HB.out
    have KW : Hid (Blk W w.heap.size 32 #[.int .u32 p, .int .u64 q, .int .u16 g]) := by rw [hW]; exact Blk.new _ _ _
    have HR := Lib.hid (h.below HBW.out)
    have HN := Lib.hid h.len
    clear h hW HB
    by_cases hlong : 1024 < n
    · have hd2 : decide ((n : Int) > 1024) = true := decide_eq_true (by omega)
      have hpc := pieces_any n W (by omega) (by omega)
      have e1 : pcsN (n : Int) = 0 := by rw [pcsN, if_neg (by omega), if_pos (by omega)]
      have e2 : pcsE (n : Int) = 3 := by rw [pcsE, if_neg (by omega), if_pos (by omega)]
      rw [e1, e2] at hpc
      have M := Lib.hid hpc
      have C := Lib.hid (cut_long A n c W hlong (by omega))
      clear hpc e1 e2
      go_enter Try.func9, Try.ntmps9
      go_wp2_with fail
      rw [← HWE.out]
      refine C.out.mono ?_
      rintro e w2 ⟨rfl, rfl⟩
      go_wp2_with fail
      refine M.out.mono ?_
      rintro e w2 ⟨rfl, rfl⟩
      go_wp2_with (go_at_call 12; refine (known_any _).mono ?_; rintro e w3 ⟨rfl, hb3⟩)
      go_ret
      exact ⟨rfl, HBW.out.trans (hb3.mono HBW.out.size)⟩
    · have hd2 : decide ((n : Int) > 1024) = false := decide_eq_false (by omega)
      obtain ⟨K, hK⟩ : ∃ K, (n + 207) / 208 = K := ⟨_, rfl⟩
      have e1 : pcsN (n : Int) = (K : Int) := by rw [pcsN, if_neg (by omega), if_neg (by omega)]; omega
      have e2 : pcsE (n : Int) = 0 := by rw [pcsE, if_neg (by omega), if_neg (by omega)]
      have hpc := fun w' => pieces_any n w' (by omega) (by omega)
      rw [e1, e2] at hpc
      have M := Lib.hid hpc
      have C := Lib.hid (cut_any A n c l W HR.out (by omega))
      rw [hK] at C
      have HK := Lib.hid hK
      have hK5 : K ≤ 5 := by omega
      have hBE := back_E l K (by rw [← HN.out]; exact hK.symm) (by rw [← HN.out]; omega)
      have hBN := back_N l K (by rw [← HN.out]; exact hK.symm)
      rw [← HN.out] at hBE hBN
      have HJE := Lib.hid hBE
      have HBN := Lib.hid hBN
      clear hpc e1 e2 hK hBE hBN
      go_enter Try.func9, Try.ntmps9
      go_wp2_with fail
      rw [← HWE.out]
      refine C.out.mono ?_
      rintro e w2 ⟨A1, c1, A2, c2, rfl, hown2, hv2, hb2⟩
      have HO2 := Lib.hid hown2
      have HV2 := Lib.hid hv2
      have HB2 := Lib.hid (HBW.out.trans (hb2.mono HBW.out.size))
      have KW2 := Lib.hid (KW.out.below hb2 KW.out.lt)
      have HR2 := Lib.hid (HR.out.below hb2)
      clear hown2 hv2 hb2 C HWE
      go_wp2_with fail
      refine (M.out _).mono ?_
      rintro e w' ⟨rfl, rfl⟩
      go_wp2_with fail
      obtain ⟨H2, HH2⟩ : ∃ H, Hid (w2.heap.size = H) := ⟨_, rfl⟩
      have hb2s : w.heap.size ≤ w2.heap.size := HB2.out.size
      go_loopw [9, 58] (fun v z wr => ∃ (i c9 : Nat) (A9 : Option Addr), i ≤ K ∧ z = .int .i64 (i : Int) ∧ v = .slice A9 i c9 ∧ OwnLs wr w2.heap.size A9 i c9 (chunks l K) ∧ Below w2.heap.size w2 wr)
        (fun _ z _ => K - (intOf z).toNat)
      case atStart => exact ⟨0, 0, none, Nat.zero_le _, rfl, rfl, OwnLs.nil _ _ _, Below.refl _ _⟩
      case round =>
        obtain ⟨i, c9, A9, hi, rfl, rfl, hown, hbel⟩ := hrel
        have HBE := Lib.hid hbel
        have hbs := hbel.size
        have HO := Lib.hid hown
        clear hown hbel
        by_cases hlt : i < K
        · have hlt2 : 208 * i < n := by have := HK.out; omega
          obtain ⟨g1, rfl, hg1⟩ := HO2.out.split (by omega)
          obtain ⟨g2, rfl, hg2⟩ := HV2.out.split (by omega)
          obtain ⟨m, hm⟩ : ∃ m, m = min 208 (n - 208 * i) := ⟨_, rfl⟩
          have hpc := CutP.piece (K := K) HO2.out m hm hlt2
          obtain ⟨ch, HCH⟩ : ∃ ch, Hid (chunk l i = ch) := ⟨_, rfl⟩
          rw [HCH.out] at hpc
          have hc2 : w2.cell? ⟨g2, i, none⟩ = some (.slice (some ⟨g1, 208 * i, none⟩) m m) := by
            rw [HV2.out.cell i _ (pcV_get _ _ _ _ hlt), pcAt, ← hm]; rfl
          have hgl := World.block_lt_of_cell? w2 _ hc2
          have kl := KW2.out.lt
          have hcap2 := HV2.out.cap.1
          have i1 : (0 : Int) ≤ (i : Int) := by omega
          have i2 : (i : Int) < (K : Int) := by omega
          have hm1 : 1 ≤ m ∧ m ≤ 208 := by omega
          have hml : m = ch.length := hpc.len
          have HPC := Lib.hid hpc
          have HM := Lib.hid hm
          have HML := Lib.hid hml
          have HC2 := Lib.hid hc2
          have TR : Hid (∀ wx, Below w2.heap.size w2 wx → wx.cell? ⟨g2, i, none⟩ = some (.slice (some ⟨g1, 208 * i, none⟩) m m) ∧ wx.cell? ⟨w.heap.size, 0, none⟩ = some (.int .u32 p) ∧ wx.cell? ⟨w.heap.size, 1, none⟩ = some (.int .u64 q) ∧ wx.cell? ⟨w.heap.size, 2, none⟩ = some (.int .u16 g) ∧ Below w2.heap.size w2 wx) := fun wx hb =>
            ⟨(hb.cell hgl).trans HC2.out, (KW2.out.below hb kl).cell 0, (KW2.out.below hb kl).cell 1, (KW2.out.below hb kl).cell 2, hb⟩
          clear hpc hm hml hc2
          go_wp2_with fail
          refine region_gate 11 (fun w' => w'.cell? ⟨g2, i, none⟩ = some (.slice (some ⟨g1, 208 * i, none⟩) m m) ∧ w'.cell? ⟨w.heap.size, 0, none⟩ = some (.int .u32 p) ∧ w'.cell? ⟨w.heap.size, 1, none⟩ = some (.int .u64 q) ∧ w'.cell? ⟨w.heap.size, 2, none⟩ = some (.int .u16 g) ∧ Below w2.heap.size w2 w') (by kernel_rfl) ?th1 (fun hHeld => ?tk1)
          case th1 => ((try dsimp only); exact TR.out _ HBE.out.drew)
          refine' takeV 0 (oi := _) (d := _) (v := _) ?ti2 ?td2 (by kernel_rfl) (by kernel_rfl) (by kernel_rfl) (by kernel_rfl) (by decide) (fun _ _ _ _ _ h => h) ?tg2 ?ty2 (by assumption) ?tr2
          case ti2 => (simp only [List.getElem?_toArray, List.getElem?_cons_succ, List.getElem?_cons_zero]; rfl)
          case td2 => exact rfl
          case tg2 => exact rfl
          case ty2 => (intro w hSw; (try dsimp only at hSw); go_split_ands; go_simp; try with_reducible rfl)
          simp only [List.setIfInBounds_toArray, List.set_cons_zero, List.set_cons_succ]
          refine' takeV 1 (oi := _) (d := _) (v := _) ?ti3 ?td3 (by kernel_rfl) (by kernel_rfl) (by kernel_rfl) (by kernel_rfl) (by decide) (fun _ _ _ _ _ h => h) ?tg3 ?ty3 (by assumption) ?tr3
          case ti3 => (simp only [List.getElem?_toArray, List.getElem?_cons_succ, List.getElem?_cons_zero]; rfl)
          case td3 => exact rfl
          case tg3 => exact rfl
          case ty3 => (intro w hSw; (try dsimp only at hSw); go_split_ands; go_simp; try with_reducible rfl)
          simp only [List.setIfInBounds_toArray, List.set_cons_zero, List.set_cons_succ]
          refine' takeV 2 (oi := _) (d := _) (v := _) ?ti4 ?td4 (by kernel_rfl) (by kernel_rfl) (by kernel_rfl) (by kernel_rfl) (by decide) (fun _ _ _ _ _ h => h) ?tg4 ?ty4 (by assumption) ?tr4
          case ti4 => (simp only [List.getElem?_toArray, List.getElem?_cons_succ, List.getElem?_cons_zero]; rfl)
          case td4 => exact rfl
          case tg4 => exact rfl
          case ty4 => (intro w hSw; (try dsimp only at hSw); go_split_ands; go_simp; try with_reducible rfl)
          simp only [List.setIfInBounds_toArray, List.set_cons_zero, List.set_cons_succ]
          refine' takeV 3 (oi := _) (d := _) (v := _) ?ti5 ?td5 (by kernel_rfl) (by kernel_rfl) (by kernel_rfl) (by kernel_rfl) (by decide) (fun _ _ _ _ _ h => h) ?tg5 ?ty5 (by assumption) ?tr5
          case ti5 => (simp only [List.getElem?_toArray, List.getElem?_cons_succ, List.getElem?_cons_zero]; rfl)
          case td5 => exact rfl
          case tg5 => exact rfl
          case ty5 => (intro w hSw; (try dsimp only at hSw); go_split_ands; go_simp; try with_reducible rfl)
          simp only [List.setIfInBounds_toArray, List.set_cons_zero, List.set_cons_succ]
          refine' takeV 4 (oi := _) (d := _) (v := _) ?ti6 ?td6 (by kernel_rfl) (by kernel_rfl) (by kernel_rfl) (by kernel_rfl) (by decide) (fun _ _ _ _ _ h => h) ?tg6 ?ty6 (by assumption) ?tr6
          case ti6 => (simp only [List.getElem?_toArray, List.getElem?_cons_succ, List.getElem?_cons_zero]; rfl)
          case td6 => exact rfl
          case tg6 => exact rfl
          case ty6 => (intro w hSw; (try dsimp only at hSw); go_split_ands; go_simp; try with_reducible rfl)
          simp only [List.setIfInBounds_toArray, List.set_cons_zero, List.set_cons_succ]
          obtain ⟨wd, hwd⟩ : ∃ wd, wd = wr.drew := ⟨_, rfl⟩
          have HOD : Hid (OwnLs wd w2.heap.size A9 i c9 (chunks l K)) := by rw [hwd]; exact HO.out
          rw [← hwd] at hHeld ⊢
          clear hwd HO
          have HBD := Lib.hid hHeld.2.2.2.2
          have hbds := HBD.out.size
          clear hHeld
          refine stepG 5 (by kernel_rfl) (by simp only [List.getElem?_toArray, List.getElem?_cons_succ, List.getElem?_cons_zero]; rfl) (fun K hK => ?_)
          go_simp
          refine (page_any (some ⟨g1, 208 * i, none⟩) m m ch p q g _ (HPC.out.below HBD.out) hm1.1 hm1.2 hp hq hg).mono ?_
          rintro e w3 ⟨A3, c3, rfl, hown3, hb3⟩
          refine hK.out _ _ ?ts7 (fun hHeld => ?_)
          case ts7 => ((try dsimp only); exact TR.out _ (HBD.out.trans (hb3.mono hbds)))
          clear hK K
          have HO3 := Lib.hid hown3
          have HB3 : Hid (Below wd.heap.size wd w3) := hb3
          clear hown3 hb3
          refine' takeV 6 (oi := _) (d := _) (v := _) ?ti8 ?td8 (by kernel_rfl) (by kernel_rfl) (by kernel_rfl) (by kernel_rfl) (by decide) (fun _ _ _ _ _ h => h) ?tg8 ?ty8 (by assumption) ?tr8
          case ti8 => (simp only [List.getElem?_toArray, List.getElem?_cons_succ, List.getElem?_cons_zero]; rfl)
          case td8 => exact rfl
          case tg8 => exact rfl
          case ty8 => (intro w hSw; (try dsimp only at hSw); go_split_ands; go_simp; try with_reducible rfl)
          simp only [List.setIfInBounds_toArray, List.set_cons_zero, List.set_cons_succ]
          refine' takeV 7 (oi := _) (d := _) (v := _) ?ti9 ?td9 (by kernel_rfl) (by kernel_rfl) (by kernel_rfl) (by kernel_rfl) (by decide) (fun _ _ _ _ _ h => h) ?tg9 ?ty9 (by assumption) ?tr9
          case ti9 => (simp only [List.getElem?_toArray, List.getElem?_cons_succ, List.getElem?_cons_zero]; rfl)
          case td9 => exact rfl
          case tg9 => exact rfl
          case ty9 => (intro w hSw; (try dsimp only at hSw); go_split_ands; go_simp; try with_reducible rfl)
          simp only [List.setIfInBounds_toArray, List.set_cons_zero, List.set_cons_succ]
          refine' takeV 8 (oi := _) (d := _) (v := _) ?ti10 ?td10 (by kernel_rfl) (by kernel_rfl) (by kernel_rfl) (by kernel_rfl) (by decide) (fun _ _ _ _ _ h => h) ?tg10 ?ty10 (by assumption) ?tr10
          case ti10 => (simp only [List.getElem?_toArray, List.getElem?_cons_succ, List.getElem?_cons_zero]; rfl)
          case td10 => exact rfl
          case tg10 => exact rfl
          case ty10 => (intro w hSw; (try dsimp only at hSw); go_split_ands; go_simp; try with_reducible rfl)
          simp only [List.setIfInBounds_toArray, List.set_cons_zero, List.set_cons_succ]
          refine' takeV 9 (oi := _) (d := _) (v := _) ?ti11 ?td11 (by kernel_rfl) (by kernel_rfl) (by kernel_rfl) (by kernel_rfl) (by decide) (fun _ _ _ _ _ h => h) ?tg11 ?ty11 (by assumption) ?tr11
          case ti11 => (simp only [List.getElem?_toArray, List.getElem?_cons_succ, List.getElem?_cons_zero]; rfl)
          case td11 => exact rfl
          case tg11 => exact rfl
          case ty11 => (intro w hSw; (try dsimp only at hSw); go_split_ands; go_simp; try with_reducible rfl)
          simp only [List.setIfInBounds_toArray, List.set_cons_zero, List.set_cons_succ]
          refine' takeV 10 (oi := _) (d := _) (v := _) ?ti12 ?td12 (by kernel_rfl) (by kernel_rfl) (by kernel_rfl) (by kernel_rfl) (by decide) (fun _ _ _ _ _ h => h) ?tg12 ?ty12 (by assumption) ?tr12
          case ti12 => (simp only [List.getElem?_toArray, List.getElem?_cons_succ, List.getElem?_cons_zero]; rfl)
          case td12 => exact rfl
          case tg12 => exact rfl
          case ty12 => (intro w hSw; (try dsimp only at hSw); go_split_ands; go_simp; try with_reducible rfl)
          simp only [List.setIfInBounds_toArray, List.set_cons_zero, List.set_cons_succ]
          refine doneG (by kernel_rfl) ?_ _
          clear hHeld
          go_upto_region 15 with (go_at_call 21; refine (read_pageB A3 c3 ch p q g _ (by rw [← HML.out]; exact hm1.1) (by rw [← HML.out]; exact hm1.2) hp hq hg HO3.out.rd).mono ?_; rintro e w4 ⟨A4, n4, c4, rfl, hown4, hb4⟩; have HO4 := Lib.hid hown4; have HB4 : Hid (Below w3.heap.size w3 w4) := hb4; clear hown4 hb4)
          obtain ⟨W5, hW5⟩ : ∃ W5, W5 = w4.alloc (.cells #[.int .u32 p, .int .u64 q, .int .u16 g] 32) := ⟨_, rfl⟩
          have hb45 : Below w4.heap.size w4 W5 := by rw [hW5]; exact below_new1 _ _
          have HN5 : Hid (Blk W5 w4.heap.size 32 #[.int .u32 p, .int .u64 q, .int .u16 g]) := by rw [hW5]; exact Blk.new _ _ _
          have HO45 : Hid (Own W5 w3.heap.size A4 n4 c4 ch) := HO4.out.below hb45
          have hbd5 : Below wd.heap.size wd W5 := HB3.out.trans ((HB4.out.trans (hb45.mono HB4.out.size)).mono HB3.out.size)
          have HBD5 := Lib.hid hbd5
          have HB5 : Hid (Below w2.heap.size w2 W5) := HBD.out.trans (hbd5.mono hbds)
          have hs5 := HB5.out.size
          have hsd5 := hbd5.size
          rw [← hW5]
          have a0 := HN5.out.cell 0
          have a1 := HN5.out.cell 1
          have a2 := HN5.out.cell 2
          have b0 := (TR.out _ HB5.out).2.1
          have b1 := (TR.out _ HB5.out).2.2.1
          have b2 := (TR.out _ HB5.out).2.2.2.1
          clear hW5 hb45 hbd5
          have h3s := HB3.out.size
          obtain ⟨vs, hv, hp9⟩ := HOD.out
          have HV9 := Lib.hid hv
          have HP9 := Lib.hid hp9
          clear hv hp9
          go_wp2_with (at_builtin; refine wpList_appV 38 Try.underlying38 rfl (.tmp 92) (.tmp 94) rfl (v := .slice A4 n4 c4) rfl rfl ((HV9.out.below HBD5.out).alloc _) ((Blk.new W5 27 _).cell 0) rfl (by simp; omega) (by omega) ?_; intro A6 c6 w6 hown6 hg6 hb6)
          go_roundw
          case rel =>
            refine ⟨i + 1, c6, A6, by omega, by go_num, rfl, OwnLs.push _ HV9.out HP9.out (by omega) HBD5.out ?_ hown6 hg6, ?_⟩
            · rw [chunks_get l K i hlt, HCH.out]
              exact HO45.out.mono (by omega)
            · exact (HB5.out.alloc hs5 _).trans hb6
          case measure => first | (simp [intOf]; done) | (simp [intOf]; omega)
        · obtain rfl : i = K := by omega
          have hrs := HO.out.rds (chunks_length l i).symm
          have HRS := Lib.hid hrs
          have HBR : Hid (Below w.heap.size w wr) := HB2.out.trans (HBE.out.mono hb2s)
          have HRr := Lib.hid (HR2.out.below HBE.out)
          have HSM : Hid (∀ j, j < i → ((chunks l i).getD j []).length ≤ 4096) := fun j hj => by rw [chunks_get l i j hj, chunk_length]; omega
          obtain ⟨E, HE⟩ : ∃ E, Hid (jE (chunks l i) ((n : Int) + 1) = E) := ⟨_, rfl⟩
          obtain ⟨V, HV⟩ : ∃ V, Hid (jV (chunks l i) ((n : Int) + 1) = V) := ⟨_, rfl⟩
          have hne := HBN.out
          rw [HE.out] at hne
          have HCV := Lib.hid (fun (W : World) (A : Option Addr) (n c : Nat) (h : Rd W A n c l) => h.str (P := Try.prog) 27 5 9 Try.underlying27 Try.underlying5 Try.underlying9)
          clear hrs hi hlt
          go_wp2_with fail
          refine (join_any A9 i c9 (chunks l i) (n : Int) _ HRS.out HSM.out (by omega) (by omega)).mono ?_
          rw [HJE.out.1, HJE.out.2]
          rintro e w3 ⟨A7, n7, c7, rfl, hown7, hb7⟩
          have HO7 := Lib.hid (Own.rd hown7)
          have HB7 : Hid (Below wr.heap.size wr w3) := hb7
          have HRS3 := Lib.hid (HRS.out.below hb7)
          clear hown7 hb7
          go_wp2_with fail
          refine (join_any A9 i c9 (chunks l i) ((n : Int) + 1) _ HRS3.out HSM.out (by omega) (by omega)).mono ?_
          rw [HE.out, HV.out]
          rintro e w4 ⟨A8, n8, c8, rfl, hown8, hb8⟩
          have HB8 : Hid (Below wr.heap.size wr w4) := HB7.out.trans (hb8.mono HB7.out.size)
          have HO74 := Lib.hid (HO7.out.below hb8)
          have HR4 := Lib.hid (HRr.out.below HB8.out)
          have HB4 : Hid (Below w.heap.size w w4) := HBR.out.trans (HB8.out.mono HBR.out.size)
          clear hown8 hb8
          have k1 := HCV.out w4 A7 n7 c7 HO74.out
          have k2 := HCV.out w4 A n c HR4.out
          go_wp2_with (go_at_call 12; refine (known_any _).mono ?_; rintro e w6 ⟨rfl, hb6⟩)
          go_ret
          exact ⟨rfl, HB4.out.trans (hb6.mono HB4.out.size)⟩
end Go.Proofs.Ytbfcpapibenndaa

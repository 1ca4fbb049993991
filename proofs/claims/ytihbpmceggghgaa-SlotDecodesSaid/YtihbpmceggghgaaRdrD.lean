/- The document's answer: its Decode. -/
import Derived.Test.YtihbpmceggghgaaRdrC
import Derived.Test.YtihbpmceggghgaaDecF
set_option linter.unusedVariables false
set_option linter.unusedSimpArgs false
namespace Go.Proofs.Ytihbpmceggghgaa
open Go.RowKit

theorem decEnd_of {b : List UInt8} (hb : b.length = 224) {f : Nat} (h : dec b = .error f) : decEnd b = .error f := by
  rw [dec_decEnd hb] at h
  cases hx : decEnd b with
  | error g => rw [hx] at h; injection h with h; rw [h]
  | ok q => rw [hx] at h; cases h
theorem dec_e0 {b : List UInt8} (h : ¬ ((b.getD 0 0).toNat = 1 ∨ (b.getD 0 0).toNat = 2)) : dec b = .error 0 := by
  unfold dec; dsimp only; rw [if_pos h]
theorem dec_e1 {b : List UInt8} (h : (b.getD 0 0).toNat = 1 ∨ (b.getD 0 0).toNat = 2) (hs : shp (b.getD 0 0).toNat (b.getD 1 0).toNat = false) : dec b = .error 1 := by
  unfold dec; dsimp only; rw [if_neg (not_not_intro h), if_pos hs]
theorem dec_e2 {b : List UInt8} (h : (b.getD 0 0).toNat = 1 ∨ (b.getD 0 0).toNat = 2) (hs : shp (b.getD 0 0).toNat (b.getD 1 0).toNat = true) (hc : ¬ (0 < (b.getD 2 0).toNat ∨ (b.getD 0 0).toNat = 1)) : dec b = .error 2 := by
  unfold dec; dsimp only; rw [if_neg (not_not_intro h), if_neg (by rw [hs]; decide), if_pos hc]
theorem dec_head {b : List UInt8} (hb : b.length = 224) (hk : (b.getD 0 0).toNat = 1 ∨ (b.getD 0 0).toNat = 2) (hs : shp (b.getD 0 0).toNat (b.getD 1 0).toNat = true) (hc : 0 < (b.getD 2 0).toNat ∨ (b.getD 0 0).toNat = 1) :
    kd b = ((b.getD 0 0).toNat, .ok 1) ∧ lv b = ((b.getD 1 0).toNat, .ok 2) ∧ ct b = ((b.getD 2 0).toNat, .ok 3) := by
  have ek : kd b = ((b.getD 0 0).toNat, .ok 1) := tkR_ok (by rw [tk1 hb (by omega), if_pos (by simpa using hk)])
  have el : lv b = ((b.getD 1 0).toNat, .ok 2) := by
    unfold lv
    rw [ek]
    exact tkR_ok (by rw [tk1 hb (by omega), hs]; rfl)
  refine ⟨ek, el, ?_⟩
  unfold ct
  rw [el, ek]
  exact tkR_ok (by rw [tk1 hb (by omega), if_pos (by simpa using hc)])
theorem nd3 (a b c d e f : Value) : [a, b, c].length = [d, e, f].length := rfl
/-- The loop over the entries. -/
structure RL (w0 wr : World) (H Z : Nat) (A : Option Addr) (c : Nat) (l : List UInt8) (k lv : Nat) (i : Nat) (Aa : Option Addr) (na ca : Nat) : Prop where
  ds : ∃ p, RDS wr Z A c l (ensR l k (.ok 3) i).2 p
  kn : ∃ A' n' c', Blk wr (H + 1) 24 #[.int .u8 (k : Int), .int .u8 (lv : Int), .slice A' n' c'] ∧ ∀ q, (ensR l k (.ok 3) i).2 = .ok q → n' = i ∧ OwnN wr (Z + 1) A' i c' (ensR l k (.ok 3) i).1 ∧ Rd wr Aa na ca ((ensR l k (.ok 3) i).1.getD (i - 1) ent0).key
  kr : Blk wr H 24 #[.int .u8 0, .int .u8 0, .slice none 0 0]
  bel : Below H w0 wr
/-- Behind it. -/
structure RX (w0 wr : World) (H Z : Nat) (A : Option Addr) (c : Nat) (l : List UInt8) (k lv m : Nat) : Prop where
  ds : ∃ p, RDS wr Z A c l (ensR l k (.ok 3) m).2 p
  kn : ∃ A' n' c', Blk wr (H + 1) 24 #[.int .u8 (k : Int), .int .u8 (lv : Int), .slice A' n' c'] ∧ ∀ q, (ensR l k (.ok 3) m).2 = .ok q → n' = m ∧ OwnN wr (Z + 1) A' m c' (ensR l k (.ok 3) m).1
  kr : Blk wr H 24 #[.int .u8 0, .int .u8 0, .slice none 0 0]
  bel : Below H w0 wr
theorem RL.out {w0 wr : World} {H Z : Nat} {A : Option Addr} {c : Nat} {l : List UInt8} {k lv i : Nat} {Aa : Option Addr} {na ca : Nat} (h : RL w0 wr H Z A c l k lv i Aa na ca) {m : Nat} (hi : i ≤ m) (he : i = m ∨ ∃ f, (ensR l k (.ok 3) i).2 = .error f) : RX w0 wr H Z A c l k lv m := by
  obtain ⟨p, hp⟩ := h.ds
  obtain ⟨A', n', c', h1, h2⟩ := h.kn
  rcases he with rfl | ⟨f, hf⟩
  · exact ⟨⟨p, hp⟩, ⟨A', n', c', h1, fun q hq => ⟨(h2 q hq).1, (h2 q hq).2.1⟩⟩, h.kr, h.bel⟩
  · obtain ⟨d, rfl⟩ : ∃ d, m = i + d := ⟨m - i, by omega⟩
    have hb := ensR_bad hf d
    refine ⟨⟨p, ?_⟩, ⟨A', n', c', h1, fun q hq => ?_⟩, h.kr, h.bel⟩
    · rw [hb, ← hf]; exact hp
    · rw [hb] at hq; cases hq
theorem RDS.low {w w' : World} {Z : Nat} {A : Option Addr} {c : Nat} {l : List UInt8} {s : RdSt} {p : Nat} (h : RDS w Z A c l s p) (hb : Below (Z + 1) w w') : RDS w' Z A c l s p :=
  ⟨h.bz.below hb (by omega), ⟨h.rd.len, h.rd.cap, h.rd.max, fun hn => by
    obtain ⟨b, o, e, hc⟩ := h.rd.at_ hn
    exact ⟨b, o, e, fun j hj => (World.cell?_of_block (w := w) (w' := w') (a := ⟨b, o + j, none⟩) (hb.block b (by have := h.lt _ e; simp at this; omega))).trans (hc j hj)⟩⟩, h.lt, h.pl, h.at_⟩
set_option maxRecDepth 100000 in
set_option maxHeartbeats 1600000 in
theorem refdecode_bad (A : Option Addr) (n c : Nat) (w : World) (hn : n ≠ 224) (hm : n ≤ 9223372036854775807) :
    Calls Try.prog 23 #[.slice A n c] w fun e w' => e = .returned (.tuple #[NdV 0 0 none 0 0, .int .i64 2, .int .i64 0]) ∧ Below w.heap.size w w' := by
  have hb : ((n : Int) != 224) = true := by rw [bne_iff_ne]; omega
  have hn2 : ¬ ((n : Int) = 224) := by omega
  go_enter Try.func23, Try.ntmps23
  go_wp2_with fail
  have hX : Blk (w.alloc (.cells #[.int .u8 0, .int .u8 0, .slice none 0 0] 24)) w.heap.size 24 #[.int .u8 0, .int .u8 0, .slice none 0 0] := Blk.new _ _ _
  refine bodyPost_ret (v := .tuple #[NdV 0 0 none 0 0, .int .i64 2, .int .i64 0]) ?_ rfl ⟨rfl, below_new1 _ _⟩
  simp [results, Try.results23, go_sem, hX.cell 0, hX.cell 1, hX.cell 2]
set_option maxRecDepth 100000 in
set_option maxHeartbeats 6400000 in
theorem refdecode_any (A : Option Addr) (c : Nat) (l : List UInt8) (w : World) (H : Nat) (hH : w.heap.size = H) (h : Rd w A 224 c l) :
    Calls Try.prog 23 #[.slice A 224 c] w fun e w' => DecP l H w e w' := by
  obtain ⟨b, o, rfl, hc⟩ := h.at_ (by omega)
  have HL : Hid (l.length = 224) := h.len.symm
  have hbH : b < H := by rw [← hH]; exact World.block_lt_of_cell? w _ (hc 0 (by omega))
  obtain ⟨k, hk⟩ : ∃ v, (l.getD 0 0).toNat = v := ⟨_, rfl⟩
  obtain ⟨v, hv⟩ : ∃ v, (l.getD 1 0).toNat = v := ⟨_, rfl⟩
  obtain ⟨m, hm⟩ : ∃ v, (l.getD 2 0).toNat = v := ⟨_, rfl⟩
  have hkl : k < 256 := by rw [← hk]; exact (l.getD 0 0).toNat_lt
  have hvl : v < 256 := by rw [← hv]; exact (l.getD 1 0).toNat_lt
  have hml : m < 256 := by rw [← hm]; exact (l.getD 2 0).toNat_lt
  have HK : Hid ((l.getD 0 0).toNat = k ∧ (l.getD 1 0).toNat = v ∧ (l.getD 2 0).toNat = m) := ⟨hk, hv, hm⟩
  obtain ⟨W, hW⟩ : ∃ W, W = w.alloc (.cells #[.int .u8 0, .int .u8 0, .slice none 0 0] 24) := ⟨_, rfl⟩
  have hbW : Below w.heap.size w W := by rw [hW]; exact below_new1 _ _
  have KR : Hid (Blk W H 24 #[.int .u8 0, .int .u8 0, .slice none 0 0]) := by rw [hW]; exact Blk.new' _ _ _ _ hH
  have HR := Lib.hid (h.below hbW)
  have HBW : Hid (Below H w W) := by rw [← hH]; exact hbW
  have CB : Hid (∀ U, Rd U (some ⟨b, o, none⟩) 224 c l → U.cell? ⟨b, o, none⟩ = some (.int .u8 (k : Int)) ∧ U.cell? ⟨b, o + 1, none⟩ = some (.int .u8 (v : Int)) ∧ U.cell? ⟨b, o + 2, none⟩ = some (.int .u8 (m : Int))) := fun U hr => by
    obtain ⟨b', o', e, hcc⟩ := hr.at_ (by omega)
    injection e with e
    injection e with e1 e2 _
    subst e1; subst e2
    refine ⟨?_, ?_, ?_⟩
    · have := hcc 0 (by omega); rw [Nat.add_zero] at this; rw [this, ← hk]
    · have := hcc 1 (by omega); rw [this, ← hv]
    · have := hcc 2 (by omega); rw [this, ← hm]
  have HW := Lib.hid hW
  have HH := Lib.hid hH
  have hWs : H + 1 = W.heap.size := by rw [hW, ← hH]; simp
  have HWS := Lib.hid hWs
  clear h hc hk hv hm hW hbW hWs
  go_enter Try.func23, Try.ntmps23
  go_upto_region 1 with fail
  rw [← HW.out]
  go_upto_region 3 with fail
  refine region_gate 8 (fun wx => wx.cell? ⟨b, o, none⟩ = some (.int .u8 (k : Int)) ∧ wx.cell? ⟨b, o + 1, none⟩ = some (.int .u8 (v : Int))) (by kernel_rfl) ?th1 (fun hHeld => ?tk1)
  case th1 => ((try dsimp only); exact ⟨(CB.out _ (HR.out.below (Below.refl _ _).drew)).1, (CB.out _ (HR.out.below (Below.refl _ _).drew)).2.1⟩)
  refine' takeV 0 (oi := _) (d := _) (v := _) ?ti2 ?td2 (by kernel_rfl) (by kernel_rfl) (by kernel_rfl) (by kernel_rfl) (by decide) (fun _ _ _ _ _ h => h) ?tg2 ?ty2 (by assumption) ?tr2
  case ti2 => (simp only [List.getElem?_toArray, List.getElem?_cons_succ, List.getElem?_cons_zero]; rfl)
  case td2 => exact rfl
  case tg2 => exact rfl
  case ty2 => (intro w hSw; (try dsimp only at hSw); go_split_ands; go_simp; try with_reducible rfl)
  simp only [List.setIfInBounds_toArray, List.set_cons_zero, List.set_cons_succ]
  refine' takeV 1 (oi := _) (d := _) (v := _) ?ti3 ?td3 (by kernel_rfl) (by kernel_rfl) (by kernel_rfl) (by kernel_rfl) (by decide) (fun _ _ _ _ _ h => h) ?tg3 ?ty3 (by assumption) ?tr3
  case ti3 => (simp only [List.getElem?_toArray, List.getElem?_cons_succ, List.getElem?_cons_zero]; rfl)
  case td3 => exact rfl
  case tg3 => exact rfl
  case ty3 => (intro w hSw; (try dsimp only at hSw); go_split_ands; go_simp; try with_reducible rfl)
  simp only [List.setIfInBounds_toArray, List.set_cons_zero, List.set_cons_succ]
  refine' takeV 2 (oi := _) (d := _) (v := _) ?ti4 ?td4 (by kernel_rfl) (by kernel_rfl) (by kernel_rfl) (by kernel_rfl) (by decide) (fun _ _ _ _ _ h => h) ?tg4 ?ty4 (by assumption) ?tr4
  case ti4 => (simp only [List.getElem?_toArray, List.getElem?_cons_succ, List.getElem?_cons_zero]; rfl)
  case td4 => exact rfl
  case tg4 => exact rfl
  case ty4 => (intro w hSw; (try dsimp only at hSw); go_split_ands; go_simp; try with_reducible rfl)
  simp only [List.setIfInBounds_toArray, List.set_cons_zero, List.set_cons_succ]
  refine' takeV 3 (oi := _) (d := _) (v := _) ?ti5 ?td5 (by kernel_rfl) (by kernel_rfl) (by kernel_rfl) (by kernel_rfl) (by decide) (fun _ _ _ _ _ h => h) ?tg5 ?ty5 (by assumption) ?tr5
  case ti5 => (simp only [List.getElem?_toArray, List.getElem?_cons_succ, List.getElem?_cons_zero]; rfl)
  case td5 => exact rfl
  case tg5 => exact rfl
  case ty5 => (intro w hSw; (try dsimp only at hSw); go_split_ands; go_simp; try with_reducible rfl)
  simp only [List.setIfInBounds_toArray, List.set_cons_zero, List.set_cons_succ]
  refine' takeV 4 (oi := _) (d := _) (v := _) ?ti6 ?td6 (by kernel_rfl) (by kernel_rfl) (by kernel_rfl) (by kernel_rfl) (by decide) (fun _ _ _ _ _ h => h) ?tg6 ?ty6 (by assumption) ?tr6
  case ti6 => (simp only [List.getElem?_toArray, List.getElem?_cons_succ, List.getElem?_cons_zero]; rfl)
  case td6 => exact rfl
  case tg6 => exact rfl
  case ty6 => (intro w hSw; (try dsimp only at hSw); go_split_ands; go_simp; try with_reducible rfl)
  simp only [List.setIfInBounds_toArray, List.set_cons_zero, List.set_cons_succ]
  refine' takeV 5 (oi := _) (d := _) (v := _) ?ti7 ?td7 (by kernel_rfl) (by kernel_rfl) (by kernel_rfl) (by kernel_rfl) (by decide) (fun _ _ _ _ _ h => h) ?tg7 ?ty7 (by assumption) ?tr7
  case ti7 => (simp only [List.getElem?_toArray, List.getElem?_cons_succ, List.getElem?_cons_zero]; rfl)
  case td7 => exact rfl
  case tg7 => exact rfl
  case ty7 => (intro w hSw; (try dsimp only at hSw); go_split_ands; go_simp; try with_reducible rfl)
  simp only [List.setIfInBounds_toArray, List.set_cons_zero, List.set_cons_succ]
  refine' takeV 6 (oi := _) (d := _) (v := _) ?ti8 ?td8 (by kernel_rfl) (by kernel_rfl) (by kernel_rfl) (by kernel_rfl) (by decide) (fun _ _ _ _ _ h => h) ?tg8 ?ty8 (by assumption) ?tr8
  case ti8 => (simp only [List.getElem?_toArray, List.getElem?_cons_succ, List.getElem?_cons_zero]; rfl)
  case td8 => exact rfl
  case tg8 => exact rfl
  case ty8 => (intro w hSw; (try dsimp only at hSw); go_split_ands; go_simp; try with_reducible rfl)
  simp only [List.setIfInBounds_toArray, List.set_cons_zero, List.set_cons_succ]
  obtain ⟨V0, hV0⟩ : ∃ V0, V0 = W.drew := ⟨_, rfl⟩
  have B0 : Below W.heap.size W V0 := by rw [hV0]; exact (Below.refl _ _).drew
  have hs0 : V0.heap.size = H + 1 := by rw [hV0, HWS.out]; rfl
  rw [← hV0]
  clear hV0 hHeld
  have HR0 := Lib.hid (HR.out.below B0)
  have KR0 := Lib.hid (KR.out.below B0 KR.out.lt)
  have HB0 : Hid (Below H w V0) := HBW.out.trans (B0.mono (by have := HWS.out; omega))
  clear B0
  refine stepG 7 (by kernel_rfl) (by simp only [List.getElem?_toArray, List.getElem?_cons_succ, List.getElem?_cons_zero]; rfl) (fun K hK => ?_)
  go_simp
  refine hK.out _ _ ?ts9 (fun hHeld => ?_)
  case ts9 => ((try dsimp only); exact ⟨(CB.out _ (HR0.out.below (below_new1 _ _))).1, (CB.out _ (HR0.out.below (below_new1 _ _))).2.1⟩)
  clear hK K
  obtain ⟨V1, hV1⟩ : ∃ V1, V1 = V0.alloc (.cells #[.int .u8 0, .int .u8 0, .slice none 0 0] 24) := ⟨_, rfl⟩
  have hb1 : Below V0.heap.size V0 V1 := by rw [hV1]; exact below_new1 _ _
  have KN1 : Hid (Blk V1 (H + 1) 24 #[.int .u8 0, .int .u8 0, .slice none 0 0]) := by rw [hV1]; exact Blk.new' _ _ _ _ hs0
  have HR1 := Lib.hid (HR0.out.below hb1)
  have KR1 := Lib.hid (KR0.out.below hb1 KR0.out.lt)
  have HB1 : Hid (Below H w V1) := HB0.out.trans (hb1.mono (by omega))
  have hs1 : V1.heap.size = H + 2 := by rw [hV1]; simp [hs0]
  rw [← hV1]
  try rw [hs0]
  clear hV1 hb1 hHeld
  have hii : (Try.prog.info? 24).map (·.size) = some [Value.int .u8 0, .int .u8 0, .slice none 0 0].length := by kernel_rfl
  have HII := Lib.hid hii
  have HOO : Hid (∀ x ∈ [Value.int .u8 0, .int .u8 0, .slice none 0 0], x.oneCell' = true) := by intro x hx; simp at hx; rcases hx with rfl | rfl | rfl <;> rfl
  have h3 : (Try.prog.info? 24).map (·.size) = some 3 := by kernel_rfl
  have H3 := Lib.hid h3
  clear hii h3
  refine stepGate 8 (by kernel_rfl) (by kernel_rfl) (by simp only [List.getElem?_toArray, List.getElem?_cons_succ, List.getElem?_cons_zero]; rfl) (fun K hK => ?_)
  refine step_store_blk rfl 24 (.tmp 5) (.tmp 20) rfl rfl (cs := [.int .u8 (k : Int), .int .u8 (v : Int), .slice none 0 0]) rfl KN1.out rfl H3.out (by intro x hx; simp at hx; rcases hx with rfl | rfl | rfl <;> rfl) ?_
  intro wa hka hga
  refine hK.out _ _ ?_
  clear hK K
  refine doneG (by kernel_rfl) ?_ _
  have HR2 : Hid (Rd wa (some ⟨b, o, none⟩) 224 c l) := by
    refine ⟨HR1.out.len, HR1.out.cap, HR1.out.max, fun hn => ?_⟩
    obtain ⟨b', o', e, hcc⟩ := HR1.out.at_ hn
    refine ⟨b', o', e, fun j hj => ?_⟩
    injection e with e
    injection e with e1 e2 _
    refine (World.cell?_of_block (w := V1) (w' := wa) (a := ⟨b', o' + j, none⟩) (hga.block b' (by omega) (by simp; omega))).trans (hcc j hj)
  have KR2 := Lib.hid (KR1.out.keep_grown hga (by simp))
  have KN2 := Lib.hid hka
  have HB2 : Hid (Below H w wa) := HB1.out.grown hga (by omega) (by intro q hq; simp at hq; omega)
  have hs2 : H + 2 ≤ wa.heap.size := by have := hga.size; omega
  have hsz2 := Lib.hid hs2
  have n0 := KN2.out.cell 0
  have n1 := KN2.out.cell 1
  have cb := CB.out _ HR2.out
  have cb2 := cb.2.2
  clear hka hga HR1 KR1 KN1 HB1 hs1 HR0 KR0 HB0 HR KR HBW cb HW HWS W hs0
  by_cases hkk : k = 1 ∨ k = 2
  · have HKK := Lib.hid hkk
    have hk1 : ((k : Int) != 1 && (k : Int) != 2) = false := by rcases hkk with h | h <;> subst h <;> rfl
    have HC := Lib.hid (refshp_any k v wa hkl hvl)
    cases hsh : shp k v with
    | true =>
      rw [hsh] at HC
      have HSH := Lib.hid hsh
      by_cases hcc : 0 < m ∨ k = 1
      · obtain ⟨hd1, hd2, hd3⟩ := dec_head HL.out (by rw [HK.out.1]; exact hkk) (by rw [HK.out.1, HK.out.2.1]; exact hsh) (by rw [HK.out.1, HK.out.2.2]; exact hcc)
        rw [HK.out.1] at hd1
        rw [HK.out.2.1] at hd2
        rw [HK.out.2.2] at hd3
        have hEn : enEnd l = ensR l k (.ok 3) m := by unfold enEnd; rw [hd1, hd3]
        have HKV : Hid ((kd l).1 = k ∧ (lv l).1 = v) := ⟨by rw [hd1], by rw [hd2]⟩
        have HEN := Lib.hid hEn
        have h45 : Hid (((k : Int) == 2 && (m : Int) == 0) = false) := by
          show _ = _
          rcases hcc with h | h
          · rw [show ((m : Int) == 0) = false by rw [beq_eq_false_iff_ne]; omega]; simp
          · subst h; rfl
        have hm2 : 0 < m ∨ k = 1 := hcc
        clear hd1 hd2 hd3 hEn hsh
        have hgo : Hid (((k : Int) == 2) = false ∨ (((k : Int) == 2) = true ∧ ((m : Int) == 0) = false)) := by
          rcases hm2 with h | h
          · rcases hkk with h2 | h2
            · left; subst h2; rfl
            · right; subst h2; exact ⟨rfl, by rw [beq_eq_false_iff_ne]; omega⟩
          · left; subst h; rfl
        clear hcc hm2 hk1
        go_upto_region 4 with fail
        go_simp
        go_cut [28] (fun s28 wx => s28 = .bool false ∧ wx = wa)
        case first =>
          rcases hkk with rfl | rfl
          · go_wp2_with fail
            go_meet
            exact ⟨rfl, rfl⟩
          · go_wp2_with fail
            go_meet
            exact ⟨rfl, rfl⟩
        case rest =>
        obtain ⟨rfl, hwc⟩ := hcut
        have hwc2 := hwc.symm
        subst hwc2
        clear hwc hkk
        go_upto_region 6 with fail
        go_wp2_with fail
        refine HC.out.mono ?_
        rintro e w1 ⟨rfl, rfl⟩
        go_upto_region 8 with fail
        go_cut [45] (fun s45 wx => s45 = .bool false ∧ wx = wa)
        case first =>
          rcases hgo.out with h2 | ⟨h2, h3⟩
          · go_wp2_with fail
            go_meet
            exact ⟨rfl, rfl⟩
          · go_wp2_with fail
            go_meet
            exact ⟨rfl, rfl⟩
        case rest =>
          obtain ⟨rfl, hwc⟩ := hcut
          have hwc2 := hwc.symm
          subst hwc2
          clear hwc hgo
          obtain ⟨Z, hZ⟩ : ∃ Z, wa.heap.size = Z := ⟨_, rfl⟩
          rw [hZ] at hs2 hsz2
          obtain ⟨V3, hV3⟩ : ∃ V3, V3 = wa.alloc (.cells #[.slice (some ⟨b, o, none⟩) 224 c, .int .i64 ((3 : Nat) : Int), .int .i64 (-1)] 67) := ⟨_, rfl⟩
          have hb3 : Below wa.heap.size wa V3 := by rw [hV3]; exact below_new1 _ _
          have hds : RDS V3 Z (some ⟨b, o, none⟩) c l (.ok 3) 3 := ⟨by rw [hV3]; exact Blk.new' _ _ _ _ hZ, HR2.out.below hb3, fun a ha => by injection ha with ha; subst ha; show b < Z; omega, by omega, fun q e => by injection e⟩
          have HRL : Hid (RL w V3 H Z (some ⟨b, o, none⟩) c l k v 0 none 0 0) := ⟨⟨3, hds⟩, ⟨none, 0, 0, KN2.out.below hb3 (by omega), fun q _ => ⟨rfl, OwnN.nil _ _ _, Rd.none_ _⟩⟩, KR2.out.below hb3 (by omega), HB2.out.trans (hb3.mono (by omega))⟩
          clear hds hb3 n0 n1 cb2
          go_upto_region 11 with fail
          have hv3 : wa.alloc (.cells #[.slice (some ⟨b, o, none⟩) 224 c, .int .i64 3, .int .i64 (-1)] 67) = V3 := hV3.symm
          rw [hv3]
          try rw [hZ]
          clear hv3 hV3
          have hz7 : H + 2 ≤ Z := hs2
          clear hZ HC HR2 KR2 KN2 HB2 wa
          go_upto_block 0 with fail
          go_cut [8] (fun s8 wx => RX w wx H Z (some ⟨b, o, none⟩) c l k v m)
          case first =>
            go_wp2_with fail
            go_loopw [7, 8] (fun z7 z8 wr => ∃ (i : Nat) (Aa : Option Addr) (na ca : Nat), z7 = .slice Aa na ca ∧ z8 = .int .i64 (i : Int) ∧ i ≤ m ∧ RL w wr H Z (some ⟨b, o, none⟩) c l k v i Aa na ca) (fun _ z8 _ => m - (intOf z8).toNat)
            case atStart => exact ⟨0, none, 0, 0, rfl, rfl, Nat.zero_le _, HRL.out⟩
            case round =>
              obtain ⟨i, Aa, na, ca, rfl, rfl, him, hrl⟩ := hrel
              have HRLr := Lib.hid hrl
              obtain ⟨p, hd⟩ := hrl.ds
              obtain ⟨A3, n3, c3, hkn, hown⟩ := hrl.kn
              have HD1 := Lib.hid hd
              have HKN := Lib.hid hkn
              have HOW := Lib.hid hown
              have HKR := Lib.hid hrl.kr
              have HBR := Lib.hid hrl.bel
              have cb2 := (CB.out _ hd.rd).2.2
              have kf := hd.bz.cell 2
              have hwm : IntKind.i64.wrap (m : Int) = (m : Int) := IntWalk.i64_in _ (by omega)
              obtain ⟨s, hs⟩ : ∃ s, (ensR l k (.ok 3) i).2 = s := ⟨_, rfl⟩
              rw [hs] at HD1 kf
              have HS := Lib.hid hs
              clear hrl hd hkn hown hs
              by_cases hlt : i < m
              · cases s with
                | error f =>
                  have e1 : rsF (.error f) = (f : Int) := rfl
                  rw [e1] at kf
                  have hf0 : ¬ ((f : Int) < 0) := by omega
                  clear e1
                  go_wp2_with fail
                  go_meet
                  exact HRLr.out.out him (.inr ⟨f, HS.out⟩)
                | ok q =>
                  obtain rfl : p = q := HD1.out.at_ _ rfl
                  have e1 : rsF (.ok p) = -1 := rfl
                  rw [e1] at kf
                  clear e1
                  obtain ⟨hn3, ho3, hra⟩ := HOW.out p HS.out
                  subst hn3
                  obtain ⟨acc, hacc⟩ : ∃ a, (ensR l k (.ok 3) n3).1 = a := ⟨_, rfl⟩
                  have hlen : acc.length = n3 := by rw [← hacc]; exact ensR_len HS.out
                  rw [hacc] at ho3 hra
                  obtain ⟨ahead, hah⟩ : ∃ a, (acc.getD (n3 - 1) ent0).key = a := ⟨_, rfl⟩
                  rw [hah] at hra
                  have HLN := Lib.hid hlen
                  have hen := ensR_ok HS.out
                  rw [hacc, hah] at hen
                  have HC := Lib.hid (rentry_any Z _ c l k n3 p Aa na ca ahead wr HD1.out hra hkl (by omega))
                  obtain ⟨x, hx⟩ : ∃ x, (enR l k n3 ahead (.ok p)).1 = x := ⟨_, rfl⟩
                  obtain ⟨s9, hs9⟩ : ∃ s, (enR l k n3 ahead (.ok p)).2 = s := ⟨_, rfl⟩
                  rw [hx, hs9] at HC hen
                  have HEQ := Lib.hid hen
                  have HO3 := Lib.hid ho3
                  have kn0 := HKN.out.cell 0
                  clear HOW ho3 hra hah hacc hlen hen hx hs9
                  go_upto_region 15 with fail
                  go_upto_region 16 with (go_at_call 55; refine HC.out.mono ?_; rintro e w1 ⟨B1, m1, d1, B2, m2, d2, L, rc, ch, rfl, ⟨p', hd'⟩, hown, hg⟩)
                  have HD2 := Lib.hid hd'
                  have HKN2 := Lib.hid (HKN.out.keep_grown hg (by simp; omega))
                  have HKR2 := Lib.hid (HKR.out.keep_grown hg (by simp; omega))
                  have HB2 : Hid (Below H w w1) := HBR.out.trans (gz_below hg (by omega) (by have := HD1.out.bz.lt; omega))
                  have HO4 := Lib.hid (HO3.out.keptE HD1.out.bz (by decide) (by decide) hg)
                  have HOX : Hid (∀ q, s9 = .ok q → Own w1 (Z + 1) B1 m1 d1 x.key ∧ Own w1 (Z + 1) B2 m2 d2 x.val ∧ L = x.len ∧ rc = x.chain ∧ ch = x.child) := fun q hq => by
                    obtain ⟨g1, g2, g3⟩ := hown q hq
                    have := HD1.out.bz.lt
                    exact ⟨g1.mono (by omega), g2.mono (by omega), g3⟩
                  have hsz1 : Z + 1 ≤ w1.heap.size := HD2.out.bz.lt
                  clear hd' hown hg HC HD1 HKN HKR HBR HO3 cb2 kf kn0
                  obtain ⟨W2, hW2⟩ : ∃ W2, W2 = w1.alloc (.cells (enA B1 m1 d1 B2 m2 d2 L rc ch) 49) := ⟨_, rfl⟩
                  obtain ⟨X, hX⟩ : ∃ X, w1.heap.size = X := ⟨_, rfl⟩
                  have hbx : Below w1.heap.size w1 W2 := by rw [hW2]; exact below_new1 _ _
                  have HKX : Hid (Blk W2 X 49 (enC B1 m1 d1 B2 m2 d2 L rc ch).toArray) := by rw [hW2]; exact Blk.new' _ _ _ _ hX
                  have HD3 := Lib.hid (HD2.out.below hbx)
                  have HKN3 := Lib.hid (HKN2.out.below hbx HKN2.out.lt)
                  have HKR3 := Lib.hid (HKR2.out.below hbx HKR2.out.lt)
                  have HB3 : Hid (Below H w W2) := HB2.out.trans (hbx.mono (by omega))
                  have HO5 := Lib.hid (HO4.out.below hbx)
                  have HOX3 : Hid (∀ q, s9 = .ok q → Own W2 (Z + 1) B1 m1 d1 x.key ∧ Own W2 (Z + 1) B2 m2 d2 x.val ∧ L = x.len ∧ rc = x.chain ∧ ch = x.child) := fun q hq => by
                    obtain ⟨g1, g2, g3⟩ := HOX.out q hq
                    exact ⟨g1.below hbx, g2.below hbx, g3⟩
                  rw [← hW2]
                  try rw [hX]
                  clear hW2 hbx HD2 HKN2 HKR2 HB2 HO4 HOX
                  have n2 := HKN3.out.cell 2
                  have z2 := HKN3.out.frozen 2
                  have q0 := HKX.out.cell 0
                  have q1 := HKX.out.cell 1
                  have q2 := HKX.out.cell 2
                  have q3 := HKX.out.cell 3
                  have q4 := HKX.out.cell 4
                  have q5 := HKX.out.cell 5
                  have q6 := HKX.out.cell 6
                  have q7 := HKX.out.cell 7
                  have q8 := HKX.out.cell 8
                  have hs2' : Z + 1 ≤ W2.heap.size := HD3.out.bz.lt
                  have hXs := HKX.out.lt
                  obtain ⟨V, hV⟩ : ∃ V, V = W2.alloc (.cells (enA B1 m1 d1 B2 m2 d2 L rc ch) 49) := ⟨_, rfl⟩
                  have hbV : Below W2.heap.size W2 V := by rw [hV]; exact below_new1 _ _
                  have KE : Hid (Blk V W2.heap.size 49 (enC B1 m1 d1 B2 m2 d2 L rc ch).toArray) := by rw [hV]; exact Blk.new _ _ _
                  obtain ⟨css, hoe, hall⟩ := HO5.out
                  have HOE := Lib.hid (hoe.below hbV)
                  have HALL : Hid (∀ j, j < n3 → EC V (Z + 1) (css.getD j []) (acc.getD j ent0)) := fun j hj => (hall j hj).below hbV
                  have HOXV : Hid (∀ q, s9 = .ok q → Own V (Z + 1) B1 m1 d1 x.key ∧ Own V (Z + 1) B2 m2 d2 x.val ∧ L = x.len ∧ rc = x.chain ∧ ch = x.child) := fun q hq => by
                    obtain ⟨g1, g2, g3⟩ := HOX3.out q hq
                    exact ⟨g1.below hbV, g2.below hbV, g3⟩
                  have KNV := Lib.hid (HKN3.out.below hbV HKN3.out.lt)
                  have KRV := Lib.hid (HKR3.out.below hbV HKR3.out.lt)
                  have HDV := Lib.hid (HD3.out.below hbV)
                  have HBV : Hid (Below H w V) := HB3.out.trans (hbV.mono (by omega))
                  have hVs : Z + 1 ≤ V.heap.size := HDV.out.bz.lt
                  rw [hV] at HOE KE HALL HOXV KNV KRV HDV HBV hVs
                  clear hoe hall hbV hV
                  have hi3 : n3 ≤ 1000000 := by omega
                  go_upto_region 14 with (at_builtin; refine wpList_appE 22 Try.underlying22 rfl (.tmp 70) (.tmp 72) rfl rfl rfl HOE.out KE.out rfl (enC_one _ _ _ _ _ _ _ _ _) hVs hi3 ?_; intro A4 c4 w7 hown7 hg7 hb7; have kn7 := HOE.out.keepBlk KNV.out (by decide) hg7; have n7 := kn7.cell 2; have z7 := kn7.frozen 2)
                  have HPU : Hid (∀ q, s9 = .ok q → OwnN w7 (Z + 1) A4 (n3 + 1) c4 (acc ++ [x]) ∧ Own w7 (Z + 1) B1 m1 d1 x.key) := fun q hq => by
                    obtain ⟨g1, g2, rfl, rfl, rfl⟩ := HOXV.out q hq
                    refine ⟨OwnN.push HOE.out (fun j hj => ?_) ?_ hown7 hg7, g1.keptOE HOE.out hg7⟩
                    · rw [getD_snoc_lt (by rw [HLN.out]; exact hj)]
                      exact HALL.out j hj
                    · have := getD_snoc_eq (l := acc) (x := x)
                      rw [HLN.out] at this
                      rw [this]
                      exact ⟨B1, m1, d1, B2, m2, d2, rfl, g1, g2⟩
                  have KN7 := Lib.hid kn7
                  have KR7 := Lib.hid (HOE.out.keepBlk KRV.out (by decide) hg7)
                  have HD7 := Lib.hid (HDV.out.low hb7)
                  have HB7 : Hid (Below H w w7) := HBV.out.trans (hb7.mono (by omega))
                  clear hown7 hg7 hb7 kn7 n7 z7 n2 z2 q0 q1 q2 q3 q4 q5 q6 q7 q8 HOE HALL HOXV KNV KRV HDV HBV hVs KE HO5 HOX3 HD3 HKN3 HKR3 HB3 HKX
                  obtain ⟨w8, hw8⟩ : ∃ w8, w8 = w7.setCell ⟨H + 1, 2, none⟩ (.slice A4 (n3 + 1) c4) := ⟨_, rfl⟩
                  have HG8 : w7.grownBy w8 (some (H + 1)) := by rw [hw8]; exact dec_grown _ _ _ _
                  have KN8 : Hid (Blk w8 (H + 1) 24 #[.int .u8 (k : Int), .int .u8 (v : Int), .slice A4 (n3 + 1) c4]) := by rw [hw8]; exact KN7.out.set_ 2 _
                  have KR8 : Hid (Blk w8 H 24 #[.int .u8 0, .int .u8 0, .slice none 0 0]) := by rw [hw8]; exact KR7.out.far (by show H ≠ H + 1; omega) _
                  have HD8 : Hid (RDS w8 Z (some ⟨b, o, none⟩) c l s9 p') := by
                    rw [hw8]
                    refine ⟨HD7.out.bz.far (by show Z ≠ H + 1; omega) _, rd_far HD7.out.rd (fun a ha => ?_) _, HD7.out.lt, HD7.out.pl, HD7.out.at_⟩
                    injection ha with ha
                    subst ha
                    show b ≠ H + 1
                    omega
                  have HB8 : Hid (Below H w w8) := by rw [hw8]; exact HB7.out.setCell (p := ⟨H + 1, 2, none⟩) (by show H ≤ H + 1; omega) _
                  have HPU8 : Hid (∀ q, s9 = .ok q → OwnN w8 (Z + 1) A4 (n3 + 1) c4 (acc ++ [x]) ∧ Rd w8 B1 m1 d1 x.key) := fun q hq => by
                    obtain ⟨g1, g2⟩ := HPU.out q hq
                    exact ⟨g1.keptE KN7.out (by decide) (by decide) HG8, (Own.keptE g2 KN7.out (by decide) HG8).rd⟩
                  rw [← hw8]
                  clear hw8 HG8 KN7 KR7 HD7 HB7 HPU
                  have hiw : IntKind.i64.wrap ((n3 : Int) + 1) = (n3 : Int) + 1 := IntWalk.i64_in _ (by omega)
                  go_wp2_with fail
                  go_roundw
                  case rel =>
                    refine ⟨n3 + 1, B1, m1, d1, rfl, by go_num, by omega, ⟨⟨p', ?_⟩, ⟨A4, n3 + 1, c4, KN8.out, fun q hq => ?_⟩, KR8.out, HB8.out⟩⟩
                    · rw [HEQ.out]; exact HD8.out
                    · rw [HEQ.out] at hq ⊢
                      obtain ⟨g1, g2⟩ := HPU8.out q hq
                      refine ⟨rfl, g1, ?_⟩
                      have := getD_snoc_eq (l := acc) (x := x)
                      rw [HLN.out] at this
                      show Rd w8 B1 m1 d1 ((acc ++ [x]).getD (n3 + 1 - 1) ent0).key
                      rw [Nat.add_sub_cancel, this]
                      exact g2
                  case measure => first | (simp [intOf]; done) | (simp [intOf]; omega)
              · have hnl : ¬ ((i : Int) < (m : Int)) := by omega
                go_wp2_with fail
                go_meet
                exact HRLr.out.out him (.inl (by omega))
          case rest =>
            clear HRL
            obtain ⟨sE, hsE⟩ : ∃ s, (ensR l k (.ok 3) m).2 = s := ⟨_, rfl⟩
            obtain ⟨⟨pE, hde⟩, ⟨A9, n9, c9, kn9, ho9⟩, hkr, hbe⟩ := hcut
            rw [hsE] at hde ho9
            have HDe := Lib.hid hde
            have KN9 := Lib.hid kn9
            have KR9 := Lib.hid hkr
            have HO9 := Lib.hid ho9
            have HBe := Lib.hid hbe
            have HSE := Lib.hid hsE
            clear hde kn9 ho9 hbe hsE hkr
            obtain ⟨w4, hw4⟩ : ∃ w4, w4 = wc := ⟨_, rfl⟩
            rw [← hw4] at HDe KN9 KR9 HO9 HBe ⊢
            clear hw4 wc
            go_upto_block 2 with fail
            go_cut [75] (fun s75 wx => (∃ p, RDS wx Z (some ⟨b, o, none⟩) c l (tlR l sE) p) ∧ w4.grownBy wx (some Z))
            case first =>
              go_wp2_with fail
              go_loopg [75] 1000 (fun gk z75 wr => ∃ (s : RdSt) (p : Nat), RDS wr Z (some ⟨b, o, none⟩) c l s p ∧ tlR l s = tlR l sE ∧ w4.grownBy wr (some Z) ∧ (match s with | .ok q => 225 - q | .error _ => 0) ≤ gk)
              case atStart => exact ⟨sE, pE, HDe.out, rfl, gz_refl _ _, by split <;> omega⟩
              case round =>
                obtain ⟨s, p, hd, ht, hf, hg⟩ := hrel
                have HT := Lib.hid ht
                have HF := Lib.hid hf
                have HD := Lib.hid hd
                have HG := Lib.hid hg
                have kf := hd.bz.cell 2
                have kp := hd.bz.cell 1
                have fp := hd.bz.frozen 1
                have ff := hd.bz.frozen 2
                have hpl := hd.pl
                cases s with
                | error f =>
                  have e1 : rsF (.error f) = (f : Int) := rfl
                  rw [e1] at kf
                  have hf0 : ¬ ((f : Int) < 0) := by omega
                  clear hd ht hf hg e1
                  go_wp2_with fail
                  go_meet
                  exact ⟨⟨p, by rw [← HT.out]; exact HD.out⟩, HF.out⟩
                | ok q =>
                  obtain rfl : p = q := hd.at_ _ rfl
                  have e1 : rsF (.ok p) = -1 := rfl
                  rw [e1] at kf
                  by_cases hp : p < 224
                  · have hp2 : ((p : Int) < 224) := by omega
                    have j1 : (0 : Int) ≤ (p : Int) := by omega
                    obtain ⟨b', o', e, hcc⟩ := hd.rd.at_ (by omega)
                    injection e with e
                    injection e with eb eo _
                    subst eb; subst eo
                    have hcell := hcc p hp
                    obtain ⟨y, hy⟩ : ∃ v, (l.getD p 0).toNat = v := ⟨_, rfl⟩
                    have hyl : y < 256 := by rw [← hy]; exact (l.getD p 0).toNat_lt
                    have hB : B8 (l.getD p 0) = .int .u8 (y : Int) := by rw [← hy]
                    rw [hB] at hcell
                    have hst := tlR_step HL.out hp
                    rw [tkR_byte HL.out (fun v => v == 0) hp hy] at hst
                    have hwp : IntKind.i64.wrap ((p : Int) + 1) = (p : Int) + 1 := IntWalk.i64_in _ (by omega)
                    have hg2 : 225 - p ≤ gk := hg
                    by_cases hy0 : y = 0
                    · subst hy0
                      have HST : Hid (tlR l (.ok (p + 1)) = tlR l sE) := by
                        show _ = _
                        rw [← HT.out, ← hst]; rfl
                      have hy1 : (((0 : Nat) : Int) != 0) = false := rfl
                      clear hd ht hf hg e1 hcc hB hst hy
                      go_wp2_with fail
                      go_roundg (gk - 1)
                      case measure => omega
                      case rel => exact ⟨.ok (p + 1), p + 1, HD.out.move (p + 1) (by omega), HST.out, gz_set HF.out (.inl rfl) _, by show 225 - (p + 1) ≤ gk - 1; omega⟩
                    · have hyb : ((y : Int) != 0) = true := by rw [bne_iff_ne]; omega
                      have HST : Hid (tlR l (.error p) = tlR l sE) := by
                        show _ = _
                        rw [← HT.out, ← hst, if_neg (by simpa using hy0)]
                      clear hd ht hf hg e1 hcc hB hst hy hy0
                      have hdf := HD.out.fault p
                      have HX : Hid (RDS ((wr.setCell ⟨Z, 2, none⟩ (.int .i64 (p : Int))).setCell ⟨Z, 1, none⟩ (.int .i64 ((p : Int) + 1))) Z (some ⟨b, o, none⟩) c l (.error p) (p + 1)) :=
                        ⟨hdf.bz.set_ 1 (.int .i64 ((p : Int) + 1)), rd_far hdf.rd (fun a ha => by have := hdf.lt a ha; simp; omega) _, hdf.lt, by omega, fun q e => by cases e⟩
                      have HY : Hid (w4.grownBy ((wr.setCell ⟨Z, 2, none⟩ (.int .i64 (p : Int))).setCell ⟨Z, 1, none⟩ (.int .i64 ((p : Int) + 1))) (some Z)) := gz_set (gz_set HF.out (p := ⟨Z, 2, none⟩) (.inl rfl) _) (p := ⟨Z, 1, none⟩) (.inl rfl) _
                      clear hdf
                      go_wp2_with fail
                      go_roundg (gk - 1)
                      case measure => omega
                      case rel => exact ⟨.error p, p + 1, HX.out, HST.out, HY.out, Nat.zero_le _⟩
                  · obtain rfl : p = 224 := by omega
                    have hp2 : ¬ (((224 : Nat) : Int) < 224) := by omega
                    clear hd ht hf hg e1
                    go_wp2_with fail
                    go_meet
                    exact ⟨⟨224, by rw [← HT.out]; exact HD.out⟩, HF.out⟩
            case rest =>
              obtain ⟨⟨p9, hd9⟩, hf9⟩ := hcut
              obtain ⟨s9, hs9⟩ : ∃ s, tlR l sE = s := ⟨_, rfl⟩
              rw [hs9] at hd9
              have HD9 := Lib.hid hd9
              have HF9 := Lib.hid hf9
              have HS9 := Lib.hid hs9
              have KN10 := Lib.hid (KN9.out.keep_grown hf9 (by simp; omega))
              have KR10 := Lib.hid (KR9.out.keep_grown hf9 (by simp; omega))
              have kf := hd9.bz.cell 2
              have hE : decEnd l = s9 := by
                unfold decEnd
                rw [HEN.out, HSE.out]
                exact hs9
              have HE := Lib.hid hE
              have hs10 : Z < wc.heap.size := hd9.bz.lt
              have HB10 : Hid (Below H w wc) := HBe.out.trans (gz_below hf9 (by omega) (by have := HDe.out.bz.lt; omega))
              clear hd9 hf9 hs9 hE
              obtain ⟨w5, hw5⟩ : ∃ w5, w5 = wc := ⟨_, rfl⟩
              rw [← hw5] at HD9 KN10 KR10 HF9 kf hs10 HB10 ⊢
              clear hw5 wc
              cases s9 with
              | error f =>
                have e1 : rsF (.error f) = (f : Int) := rfl
                rw [e1] at kf
                have hf0 : ((f : Int) ≥ 0) := by omega
                clear e1
                go_upto_region 23 with fail
                refine region_gate 6 (fun wx => wx.cell? ⟨Z, 2, none⟩ = some (.int .i64 (f : Int))) (by kernel_rfl) ?th10 (fun hHeld => ?tk10)
                case th10 => ((try dsimp only); exact kf)
                refine' takeV 0 (oi := _) (d := _) (v := _) ?ti11 ?td11 (by kernel_rfl) (by kernel_rfl) (by kernel_rfl) (by kernel_rfl) (by decide) (fun _ _ _ _ _ h => h) ?tg11 ?ty11 (by assumption) ?tr11
                case ti11 => (simp only [List.getElem?_toArray, List.getElem?_cons_succ, List.getElem?_cons_zero]; rfl)
                case td11 => exact rfl
                case tg11 => exact rfl
                case ty11 => (intro w hSw; (try dsimp only at hSw); go_split_ands; go_simp; try with_reducible rfl)
                simp only [List.setIfInBounds_toArray, List.set_cons_zero, List.set_cons_succ]
                refine' takeV 1 (oi := _) (d := _) (v := _) ?ti12 ?td12 (by kernel_rfl) (by kernel_rfl) (by kernel_rfl) (by kernel_rfl) (by decide) (fun _ _ _ _ _ h => h) ?tg12 ?ty12 (by assumption) ?tr12
                case ti12 => (simp only [List.getElem?_toArray, List.getElem?_cons_succ, List.getElem?_cons_zero]; rfl)
                case td12 => exact rfl
                case tg12 => exact rfl
                case ty12 => (intro w hSw; (try dsimp only at hSw); go_split_ands; go_simp; try with_reducible rfl)
                simp only [List.setIfInBounds_toArray, List.set_cons_zero, List.set_cons_succ]
                refine' takeV 2 (oi := _) (d := _) (v := _) ?ti13 ?td13 (by kernel_rfl) (by kernel_rfl) (by kernel_rfl) (by kernel_rfl) (by decide) (fun _ _ _ _ _ h => h) ?tg13 ?ty13 (by assumption) ?tr13
                case ti13 => (simp only [List.getElem?_toArray, List.getElem?_cons_succ, List.getElem?_cons_zero]; rfl)
                case td13 => exact rfl
                case tg13 => exact rfl
                case ty13 => (intro w hSw; (try dsimp only at hSw); go_split_ands; go_simp; try with_reducible rfl)
                simp only [List.setIfInBounds_toArray, List.set_cons_zero, List.set_cons_succ]
                obtain ⟨V0, hV0⟩ : ∃ V0, V0 = w5.drew := ⟨_, rfl⟩
                have B0 : Below w5.heap.size w5 V0 := by rw [hV0]; exact (Below.refl _ _).drew
                rw [← hV0]
                clear hV0 hHeld
                have KR11 := Lib.hid (KR10.out.below B0 (by omega))
                have HD11 := Lib.hid (HD9.out.below B0)
                refine stepG 3 (by kernel_rfl) (by simp only [List.getElem?_toArray, List.getElem?_cons_succ, List.getElem?_cons_zero]; rfl) (fun K hK => ?_)
                refine step_store_blk rfl 24 (.tmp 2) (.tmp 101) rfl rfl (cs := [.int .u8 0, .int .u8 0, .slice none 0 0]) rfl KR11.out rfl H3.out (by intro v hv; simp at hv; rcases hv with rfl | rfl | rfl <;> rfl) ?_
                intro wa hka hga
                refine hK.out _ _ ?ts14 (fun hHeld => ?_)
                case ts14 => ((try dsimp only); exact (HD11.out.bz.keep_grown hga (by simp; omega)).cell 2)
                clear hK K
                refine' takeW 4 (oi := _) (d := _) (v := _) ?ti15 ?td15 (by kernel_rfl) (by kernel_rfl) (by kernel_rfl) (by decide) (fun _ _ _ _ _ h => h) ?tg15 ?ty15 ?tf15 ?tr15
                case ti15 => (simp only [List.getElem?_toArray, List.getElem?_cons_succ, List.getElem?_cons_zero]; rfl)
                case td15 => exact rfl
                case tg15 => exact rfl
                case ty15 => (intro w; go_simp; try with_reducible rfl)
                case tf15 => first | (intro _; assumption) | (intro e; exact absurd e (by decide +kernel))
                simp only [List.setIfInBounds_toArray, List.set_cons_zero, List.set_cons_succ]
                refine' takeW 5 (oi := _) (d := _) (v := _) ?ti16 ?td16 (by kernel_rfl) (by kernel_rfl) (by kernel_rfl) (by decide) (fun _ _ _ _ _ h => h) ?tg16 ?ty16 ?tf16 ?tr16
                case ti16 => (simp only [List.getElem?_toArray, List.getElem?_cons_succ, List.getElem?_cons_zero]; rfl)
                case td16 => exact rfl
                case tg16 => exact rfl
                case ty16 => (intro w; go_simp; try with_reducible rfl)
                case tf16 => first | (intro _; assumption) | (intro e; exact absurd e (by decide +kernel))
                simp only [List.setIfInBounds_toArray, List.set_cons_zero, List.set_cons_succ]
                refine doneG (by kernel_rfl) ?_ _
                go_wp2_with fail
                refine bodyPost_ret (v := .tuple #[NdV 0 0 none 0 0, .int .i64 5, .int .i64 (f : Int)]) ?_ rfl ?_
                · simp [results, Try.results23, go_sem, hka.cell 0, hka.cell 1, hka.cell 2]
                · exact DecP.bad HE.out ((HB10.out.trans (B0.mono (by omega))).grown hga (by have := B0.size; omega) (by intro q hq; simp at hq; omega))
              | ok q =>
                have e1 : rsF (.ok q) = -1 := rfl
                rw [e1] at kf
                clear e1
                obtain ⟨q', hq'⟩ : ∃ q', sE = .ok q' := by
                  cases hx : sE with
                  | error f => rw [hx] at HS9; cases HS9.out
                  | ok q' => exact ⟨q', rfl⟩
                obtain ⟨hn9, ho10⟩ := HO9.out q' hq'
                have hln : (ensR l k (.ok 3) m).1.length = m := ensR_len (HSE.out.trans hq')
                have hO : OwnN w5 (Z + 1) A9 m c9 (ensR l k (.ok 3) m).1 := ho10.keptE HDe.out.bz (by decide) (by decide) HF9.out
                rw [hn9] at KN10
                rw [← HEN.out] at hln hO
                have HO := Lib.hid hO
                have HLN := Lib.hid hln
                have m0 := KN10.out.cell 0
                have m1 := KN10.out.cell 1
                have m2 := KN10.out.cell 2
                clear hq' hn9 ho10 hO hln
                have hii : (Try.prog.info? 24).map (·.size) = some [Value.int .u8 (k : Int), .int .u8 (v : Int), .slice A9 m c9].length := H3.out
                have HII2 := Lib.hid hii
                have HOO2 : Hid (∀ x ∈ [Value.int .u8 (k : Int), .int .u8 (v : Int), .slice A9 m c9], x.oneCell' = true) := by intro x hx; simp at hx; rcases hx with rfl | rfl | rfl <;> rfl
                clear hii
                go_upto_region 24 with fail
                go_wp2_with (with_reducible refine wpList_store_blk rfl 24 (.tmp 2) (.tmp 104) rfl rfl (cs := [Value.int .u8 (k : Int), .int .u8 (v : Int), .slice A9 m c9]) rfl KR10.out (nd3 _ _ _ _ _ _) HII2.out HOO2.out ?_; intro wa hka hga)
                refine bodyPost_ret (v := .tuple #[NdV k v A9 m c9, .int .i64 0, .int .i64 0]) ?_ rfl ?_
                · simp [results, Try.results23, go_sem, hka.cell 0, hka.cell 1, hka.cell 2]
                · exact DecP.good HE.out HKV.out.1 HKV.out.2 HLN.out.symm ((HO.out.keptE KR10.out (by decide) (by decide) hga).mono (by omega)) (HB10.out.grown hga (by omega) (by intro q hq; simp at hq; omega))
      · have hk2 : k = 2 := by rcases hkk with h | h; exact absurd (.inr h) hcc; exact h
        have hm0 : m = 0 := by omega
        have HE : Hid (dec l = .error 2) := dec_e2 (by rw [HK.out.1]; exact hkk) (by rw [HK.out.1, HK.out.2.1]; exact hsh) (by rw [HK.out.1, HK.out.2.2]; exact hcc)
        subst hk2; subst hm0
        clear hkk hk1 hsh hcc
        go_upto_region 6 with fail
        go_wp2_with fail
        refine HC.out.mono ?_
        rintro e w1 ⟨rfl, rfl⟩
        go_upto_region 9 with fail
        go_wp2_with (with_reducible refine wpList_store_blk rfl 24 (.tmp 2) (.tmp 46) rfl rfl (cs := [Value.int .u8 0, .int .u8 0, .slice none 0 0]) rfl KR2.out (Eq.refl _) HII.out HOO.out ?_; intro wb hkb hgb)
        refine bodyPost_ret (v := .tuple #[NdV 0 0 none 0 0, .int .i64 5, .int .i64 ((2 : Nat) : Int)]) ?_ rfl ?_
        · simp [results, Try.results23, go_sem, hkb.cell 0, hkb.cell 1, hkb.cell 2]
        · exact DecP.bad (decEnd_of HL.out (HE.out)) (HB2.out.grown hgb (by have := HB2.out.size; have := HH.out; omega) (by intro q hq; simp at hq; omega))
    | false =>
      rw [hsh] at HC
      have HE : Hid (dec l = .error 1) := dec_e1 (by rw [HK.out.1]; exact hkk) (by rw [HK.out.1, HK.out.2.1]; exact hsh)
      rcases hkk with rfl | rfl
      all_goals
        clear hk1 hsh
        go_upto_region 6 with fail
        go_wp2_with fail
        refine HC.out.mono ?_
        rintro e w1 ⟨rfl, rfl⟩
        go_upto_region 7 with fail
        go_wp2_with (with_reducible refine wpList_store_blk rfl 24 (.tmp 2) (.tmp 36) rfl rfl (cs := [Value.int .u8 0, .int .u8 0, .slice none 0 0]) rfl KR2.out (Eq.refl _) HII.out HOO.out ?_; intro wb hkb hgb)
        refine bodyPost_ret (v := .tuple #[NdV 0 0 none 0 0, .int .i64 5, .int .i64 ((1 : Nat) : Int)]) ?_ rfl ?_
        · simp [results, Try.results23, go_sem, hkb.cell 0, hkb.cell 1, hkb.cell 2]
        · exact DecP.bad (decEnd_of HL.out (HE.out)) (HB2.out.grown hgb (by have := HB2.out.size; have := HH.out; omega) (by intro q hq; simp at hq; omega))
  · have HE : Hid (dec l = .error 0) := dec_e0 (by rw [HK.out.1]; exact hkk)
    have hn1 : ((k : Int) != 1) = true := by rw [bne_iff_ne]; omega
    have hn2 : ((k : Int) != 2) = true := by rw [bne_iff_ne]; omega
    clear hkk
    go_upto_region 5 with fail
    go_wp2_with (with_reducible refine wpList_store_blk rfl 24 (.tmp 2) (.tmp 29) rfl rfl (cs := [Value.int .u8 0, .int .u8 0, .slice none 0 0]) rfl KR2.out (Eq.refl _) HII.out HOO.out ?_; intro wb hkb hgb)
    refine bodyPost_ret (v := .tuple #[NdV 0 0 none 0 0, .int .i64 5, .int .i64 ((0 : Nat) : Int)]) ?_ rfl ?_
    · simp [results, Try.results23, go_sem, hkb.cell 0, hkb.cell 1, hkb.cell 2]
    · exact DecP.bad (decEnd_of HL.out (HE.out)) (HB2.out.grown hgb (by have := HB2.out.size; have := HH.out; omega) (by intro q hq; simp at hq; omega))
end Go.Proofs.Ytihbpmceggghgaa
